/-
  No cell of these rows narrows 'for every input' (looked for: loops, veiled, ifaces, maps, wideKeys, modest, calm, conditions, laid).
  DERIVED. THE GIVEN ROWS OF THIS SEAT. 3 by the template 'for every input the law returns true; each argument reads behind the call as it read before'; 0 by the template 'total and deterministic' (their statements: YtgkhakhkebjbpaaGreatTotals.lean).
  GIVEN WITH THE SEED: the statements are not yours to turn. If you find one false, say at which input.
  Laid BY PROGRAM, IN A SANDBOX (cutbox-rows.mjs): the forced cells as the released guide's own fill.sh prints them over the translation 6bda5561ce89116f… (all of the seat's roots in one cut). By AI agents, Wed Nov 11 2026. No macro, syntax, notation, axiom, sorry.
-/
import Derived.Test.YtgkhakhkebjbpaaGreatChecked
import GoSem.Claim
import GoSem.ClaimJoined
import GoSem.ClaimMapViews
import Derived.JoinedTies
import Derived.KernelRfl
namespace Go.Proofs.YtgkhakhkebjbpaaGreat
/- THE CELL 'sum', in the pinned program and in every row, IS THE sha256 OF THE DUMP (.gsa) THAT YtgkhakhkebjbpaaGreatProg.lean LOADS. Nothing in Lean hashes anything: it is a label: what it is worth is what the hold of that sum in a sandbox is worth. -/
noncomputable def Tryz.pinned : Pinned := { name := "ytgkhakhkebjbpaagreat", sum := "6bda5561ce89116f41ef06066214b5c4a211e92d67048f2806a1757a8b288505", checked := Tryz.checked }
namespace Rows
def none {H : Type} : Left H := { results := [], args := [] }

/-- 'laws.FnPrints': WHATEVER THE INPUT: true; the input reads as it did. -/
def fnPrintsSpec : ChangeSpec := { name := "fnPrints", fn := fun _ => fun
  | [d] => { results := [.lit (.bool true)], args := [d] }
  | _ => none }
def fnPrintsRow : OpenClaim := { program := "ytgkhakhkebjbpaagreat", sum := "6bda5561ce89116f41ef06066214b5c4a211e92d67048f2806a1757a8b288505", func := "loop.example/g00943/laws.FnPrints", spec := "fnPrints", unfollowed := true, recurses := true, apart := false }
def FnPrintsSaid : Prop := fnPrintsRow.holds Tryz.pinned (OpenSpec.ofChange fnPrintsSpec)

/-- ITS FALSE NEIGHBOUR: 'it returns false'. Refute it at one input. -/
def fnPrintsWrong : ChangeSpec := { name := "fnPrints", fn := fun _ => fun
  | [d] => { results := [.lit (.bool false)], args := [d] }
  | _ => none }
def FnPrintsWrongFalsely : Prop := fnPrintsRow.holds Tryz.pinned (OpenSpec.ofChange fnPrintsWrong)

/-- 'laws.FnDrops': WHATEVER THE INPUT: true; the input reads as it did. -/
def fnDropsSpec : ChangeSpec := { name := "fnDrops", fn := fun _ => fun
  | [d] => { results := [.lit (.bool true)], args := [d] }
  | _ => none }
def fnDropsRow : OpenClaim := { program := "ytgkhakhkebjbpaagreat", sum := "6bda5561ce89116f41ef06066214b5c4a211e92d67048f2806a1757a8b288505", func := "loop.example/g00943/laws.FnDrops", spec := "fnDrops", unfollowed := true, recurses := true, apart := false }
def FnDropsSaid : Prop := fnDropsRow.holds Tryz.pinned (OpenSpec.ofChange fnDropsSpec)

/-- ITS FALSE NEIGHBOUR: 'it returns false'. Refute it at one input. -/
def fnDropsWrong : ChangeSpec := { name := "fnDrops", fn := fun _ => fun
  | [d] => { results := [.lit (.bool false)], args := [d] }
  | _ => none }
def FnDropsWrongFalsely : Prop := fnDropsRow.holds Tryz.pinned (OpenSpec.ofChange fnDropsWrong)

/-- 'laws.FnPanels': WHATEVER THE INPUT: true; the input reads as it did. -/
def fnPanelsSpec : ChangeSpec := { name := "fnPanels", fn := fun _ => fun
  | [d] => { results := [.lit (.bool true)], args := [d] }
  | _ => none }
def fnPanelsRow : OpenClaim := { program := "ytgkhakhkebjbpaagreat", sum := "6bda5561ce89116f41ef06066214b5c4a211e92d67048f2806a1757a8b288505", func := "loop.example/g00943/laws.FnPanels", spec := "fnPanels", unfollowed := true, recurses := true, apart := false }
def FnPanelsSaid : Prop := fnPanelsRow.holds Tryz.pinned (OpenSpec.ofChange fnPanelsSpec)

/-- ITS FALSE NEIGHBOUR: 'it returns false'. Refute it at one input. -/
def fnPanelsWrong : ChangeSpec := { name := "fnPanels", fn := fun _ => fun
  | [d] => { results := [.lit (.bool false)], args := [d] }
  | _ => none }
def FnPanelsWrongFalsely : Prop := fnPanelsRow.holds Tryz.pinned (OpenSpec.ofChange fnPanelsWrong)

/- THE SECOND FORM. 'bulk': how many values and letters a reading holds, each counted each time it is reached (what is shared counts as often as it is met; a slice's spare places count too). A statement '..UptoSaid' is the law's where the arguments, and the package variables that the reading takes, are together of bulk at most 1048576: NARROWER than '..Said'. Prove '..Said' where nothing that the law and all that it calls make is longer than what came in: it says more and counts as full. Else prove '..UptoSaid'. A law counts once. -/
mutual
def uptoBulk {H : Type} : DataW H → Nat
  | .lit (.string bytes) => bytes.length + 1
  | .lit _ => 1
  | .nil => 1
  | .ptr d => uptoBulk d + 1
  | .slice elems spare => uptoBulkAll elems + uptoBulkAll spare + 1
  | .agg parts => uptoBulkAll parts + 1
  | .iface _ d => uptoBulk d + 1
  | .map entries => uptoBulkEntries entries + 1
  | .held _ => 1
def uptoBulkAll {H : Type} : List (DataW H) → Nat
  | [] => 0
  | d :: r => uptoBulk d + uptoBulkAll r
def uptoBulkEntries {H : Type} : List (Lit × DataW H) → Nat
  | [] => 0
  | x :: r => uptoBulkEntry x + uptoBulkEntries r
def uptoBulkEntry {H : Type} : Lit × DataW H → Nat
  | (.string bytes, d) => bytes.length + uptoBulk d + 1
  | (_, d) => uptoBulk d + 1
 end
def uptoSmall : (H : Type) → List (DataW H) → Bool := fun _ ds => decide (uptoBulkAll ds ≤ 1048576)
def OpenSpec.upto (s : _root_.Go.ChangeSpec) : _root_.Go.OpenSpec := { _root_.Go.OpenSpec.ofChange s with cond := some uptoSmall }

/-- 'laws.FnPrints', WHERE WHAT IT READS IS OF BULK AT MOST 1048576: true; the input reads as it did. -/
def fnPrintsUptoRow : OpenClaim := { program := "ytgkhakhkebjbpaagreat", sum := "6bda5561ce89116f41ef06066214b5c4a211e92d67048f2806a1757a8b288505", func := "loop.example/g00943/laws.FnPrints", spec := "fnPrints", unfollowed := true, recurses := true, apart := false, narrowed := true }
def FnPrintsUptoSaid : Prop := fnPrintsUptoRow.holds Tryz.pinned (OpenSpec.upto fnPrintsSpec)

/-- 'laws.FnDrops', WHERE WHAT IT READS IS OF BULK AT MOST 1048576: true; the input reads as it did. -/
def fnDropsUptoRow : OpenClaim := { program := "ytgkhakhkebjbpaagreat", sum := "6bda5561ce89116f41ef06066214b5c4a211e92d67048f2806a1757a8b288505", func := "loop.example/g00943/laws.FnDrops", spec := "fnDrops", unfollowed := true, recurses := true, apart := false, narrowed := true }
def FnDropsUptoSaid : Prop := fnDropsUptoRow.holds Tryz.pinned (OpenSpec.upto fnDropsSpec)

/-- 'laws.FnPanels', WHERE WHAT IT READS IS OF BULK AT MOST 1048576: true; the input reads as it did. -/
def fnPanelsUptoRow : OpenClaim := { program := "ytgkhakhkebjbpaagreat", sum := "6bda5561ce89116f41ef06066214b5c4a211e92d67048f2806a1757a8b288505", func := "loop.example/g00943/laws.FnPanels", spec := "fnPanels", unfollowed := true, recurses := true, apart := false, narrowed := true }
def FnPanelsUptoSaid : Prop := fnPanelsUptoRow.holds Tryz.pinned (OpenSpec.upto fnPanelsSpec)

end Rows
end Go.Proofs.YtgkhakhkebjbpaaGreat
