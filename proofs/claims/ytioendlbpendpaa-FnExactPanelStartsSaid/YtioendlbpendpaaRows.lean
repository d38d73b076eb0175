/-
  No cell of these rows narrows 'for every input' (looked for: loops, veiled, ifaces, maps, wideKeys, modest, calm, conditions, laid).
  DERIVED. THE GIVEN ROWS OF THIS SEAT. 9 by the template 'for every input the law returns true; each argument reads behind the call as it read before'; 0 by the template 'total and deterministic' (their statements: YtioendlbpendpaaTotals.lean).
  GIVEN WITH THE SEED: the statements are not yours to turn. If you find one false, say at which input.
  Laid BY PROGRAM, IN A SANDBOX (cutbox-rows.mjs): the forced cells as the released guide's own fill.sh prints them over the translation 89cac42d38ba7bbe… (all of the seat's roots in one cut). By AI agents, Wed Nov 11 2026. No macro, syntax, notation, axiom, sorry.
-/
import Derived.Test.YtioendlbpendpaaChecked
import GoSem.Claim
import GoSem.ClaimJoined
import GoSem.ClaimMapViews
import Derived.JoinedTies
import Derived.KernelRfl
namespace Go.Proofs.Ytioendlbpendpaa
/- THE CELL 'sum', in the pinned program and in every row, IS THE sha256 OF THE DUMP (.gsa) THAT YtioendlbpendpaaProg.lean LOADS. Nothing in Lean hashes anything: it is a label: what it is worth is what the hold of that sum in a sandbox is worth. -/
noncomputable def Try.pinned : Pinned := { name := "ytioendlbpendpaa", sum := "89cac42d38ba7bbeffab2b60d2dac8979c85b05c14c4fc6f75a5c3d9522e5c3b", checked := Try.checked }
namespace Rows
def none {H : Type} : Left H := { results := [], args := [] }

/-- 'laws.FnExactRollLength': WHATEVER THE INPUT: true; the input reads as it did. -/
def fnExactRollLengthSpec : ChangeSpec := { name := "fnExactRollLength", fn := fun _ => fun
  | [d1, d2, d3, d4] => { results := [.lit (.bool true)], args := [d1, d2, d3, d4] }
  | _ => none }
def fnExactRollLengthRow : OpenClaim := { program := "ytioendlbpendpaa", sum := "89cac42d38ba7bbeffab2b60d2dac8979c85b05c14c4fc6f75a5c3d9522e5c3b", func := "loop.example/g00943/laws.FnExactRollLength", spec := "fnExactRollLength", unfollowed := true, recurses := true, plainKeys := false, apart := false }
def FnExactRollLengthSaid : Prop := fnExactRollLengthRow.holds Try.pinned (OpenSpec.ofChange fnExactRollLengthSpec)

/-- ITS FALSE NEIGHBOUR: 'it returns false'. Refute it at one input. -/
def fnExactRollLengthWrong : ChangeSpec := { name := "fnExactRollLength", fn := fun _ => fun
  | [d1, d2, d3, d4] => { results := [.lit (.bool false)], args := [d1, d2, d3, d4] }
  | _ => none }
def FnExactRollLengthWrongFalsely : Prop := fnExactRollLengthRow.holds Try.pinned (OpenSpec.ofChange fnExactRollLengthWrong)

/-- 'laws.FnExactPanelStarts': WHATEVER THE INPUT: true; the input reads as it did. -/
def fnExactPanelStartsSpec : ChangeSpec := { name := "fnExactPanelStarts", fn := fun _ => fun
  | [d1, d2, d3, d4] => { results := [.lit (.bool true)], args := [d1, d2, d3, d4] }
  | _ => none }
def fnExactPanelStartsRow : OpenClaim := { program := "ytioendlbpendpaa", sum := "89cac42d38ba7bbeffab2b60d2dac8979c85b05c14c4fc6f75a5c3d9522e5c3b", func := "loop.example/g00943/laws.FnExactPanelStarts", spec := "fnExactPanelStarts", unfollowed := true, recurses := true, plainKeys := false, apart := false }
def FnExactPanelStartsSaid : Prop := fnExactPanelStartsRow.holds Try.pinned (OpenSpec.ofChange fnExactPanelStartsSpec)

/-- ITS FALSE NEIGHBOUR: 'it returns false'. Refute it at one input. -/
def fnExactPanelStartsWrong : ChangeSpec := { name := "fnExactPanelStarts", fn := fun _ => fun
  | [d1, d2, d3, d4] => { results := [.lit (.bool false)], args := [d1, d2, d3, d4] }
  | _ => none }
def FnExactPanelStartsWrongFalsely : Prop := fnExactPanelStartsRow.holds Try.pinned (OpenSpec.ofChange fnExactPanelStartsWrong)

/-- 'laws.FnExactLostRows': WHATEVER THE INPUT: true; the input reads as it did. -/
def fnExactLostRowsSpec : ChangeSpec := { name := "fnExactLostRows", fn := fun _ => fun
  | [d1, d2, d3, d4] => { results := [.lit (.bool true)], args := [d1, d2, d3, d4] }
  | _ => none }
def fnExactLostRowsRow : OpenClaim := { program := "ytioendlbpendpaa", sum := "89cac42d38ba7bbeffab2b60d2dac8979c85b05c14c4fc6f75a5c3d9522e5c3b", func := "loop.example/g00943/laws.FnExactLostRows", spec := "fnExactLostRows", unfollowed := true, recurses := true, plainKeys := false, apart := false }
def FnExactLostRowsSaid : Prop := fnExactLostRowsRow.holds Try.pinned (OpenSpec.ofChange fnExactLostRowsSpec)

/-- ITS FALSE NEIGHBOUR: 'it returns false'. Refute it at one input. -/
def fnExactLostRowsWrong : ChangeSpec := { name := "fnExactLostRows", fn := fun _ => fun
  | [d1, d2, d3, d4] => { results := [.lit (.bool false)], args := [d1, d2, d3, d4] }
  | _ => none }
def FnExactLostRowsWrongFalsely : Prop := fnExactLostRowsRow.holds Try.pinned (OpenSpec.ofChange fnExactLostRowsWrong)

/-- 'laws.FnExactCountFixed': WHATEVER THE INPUT: true; the input reads as it did. -/
def fnExactCountFixedSpec : ChangeSpec := { name := "fnExactCountFixed", fn := fun _ => fun
  | [d1, d2, d3] => { results := [.lit (.bool true)], args := [d1, d2, d3] }
  | _ => none }
def fnExactCountFixedRow : OpenClaim := { program := "ytioendlbpendpaa", sum := "89cac42d38ba7bbeffab2b60d2dac8979c85b05c14c4fc6f75a5c3d9522e5c3b", func := "loop.example/g00943/laws.FnExactCountFixed", spec := "fnExactCountFixed", unfollowed := true, recurses := true, plainKeys := false, apart := false }
def FnExactCountFixedSaid : Prop := fnExactCountFixedRow.holds Try.pinned (OpenSpec.ofChange fnExactCountFixedSpec)

/-- ITS FALSE NEIGHBOUR: 'it returns false'. Refute it at one input. -/
def fnExactCountFixedWrong : ChangeSpec := { name := "fnExactCountFixed", fn := fun _ => fun
  | [d1, d2, d3] => { results := [.lit (.bool false)], args := [d1, d2, d3] }
  | _ => none }
def FnExactCountFixedWrongFalsely : Prop := fnExactCountFixedRow.holds Try.pinned (OpenSpec.ofChange fnExactCountFixedWrong)

/-- 'laws.FnExactCountCycles': WHATEVER THE INPUT: true; the input reads as it did. -/
def fnExactCountCyclesSpec : ChangeSpec := { name := "fnExactCountCycles", fn := fun _ => fun
  | [d1, d2, d3] => { results := [.lit (.bool true)], args := [d1, d2, d3] }
  | _ => none }
def fnExactCountCyclesRow : OpenClaim := { program := "ytioendlbpendpaa", sum := "89cac42d38ba7bbeffab2b60d2dac8979c85b05c14c4fc6f75a5c3d9522e5c3b", func := "loop.example/g00943/laws.FnExactCountCycles", spec := "fnExactCountCycles", unfollowed := true, recurses := true, plainKeys := false, apart := false }
def FnExactCountCyclesSaid : Prop := fnExactCountCyclesRow.holds Try.pinned (OpenSpec.ofChange fnExactCountCyclesSpec)

/-- ITS FALSE NEIGHBOUR: 'it returns false'. Refute it at one input. -/
def fnExactCountCyclesWrong : ChangeSpec := { name := "fnExactCountCycles", fn := fun _ => fun
  | [d1, d2, d3] => { results := [.lit (.bool false)], args := [d1, d2, d3] }
  | _ => none }
def FnExactCountCyclesWrongFalsely : Prop := fnExactCountCyclesRow.holds Try.pinned (OpenSpec.ofChange fnExactCountCyclesWrong)

/-- 'laws.FnExactMoverOf': WHATEVER THE INPUT: true; the input reads as it did. -/
def fnExactMoverOfSpec : ChangeSpec := { name := "fnExactMoverOf", fn := fun _ => fun
  | [d1, d2, d3, d4, d5] => { results := [.lit (.bool true)], args := [d1, d2, d3, d4, d5] }
  | _ => none }
def fnExactMoverOfRow : OpenClaim := { program := "ytioendlbpendpaa", sum := "89cac42d38ba7bbeffab2b60d2dac8979c85b05c14c4fc6f75a5c3d9522e5c3b", func := "loop.example/g00943/laws.FnExactMoverOf", spec := "fnExactMoverOf", unfollowed := true, recurses := true, plainKeys := false, apart := false }
def FnExactMoverOfSaid : Prop := fnExactMoverOfRow.holds Try.pinned (OpenSpec.ofChange fnExactMoverOfSpec)

/-- ITS FALSE NEIGHBOUR: 'it returns false'. Refute it at one input. -/
def fnExactMoverOfWrong : ChangeSpec := { name := "fnExactMoverOf", fn := fun _ => fun
  | [d1, d2, d3, d4, d5] => { results := [.lit (.bool false)], args := [d1, d2, d3, d4, d5] }
  | _ => none }
def FnExactMoverOfWrongFalsely : Prop := fnExactMoverOfRow.holds Try.pinned (OpenSpec.ofChange fnExactMoverOfWrong)

/-- 'laws.FnExactStabiliserOf': WHATEVER THE INPUT: true; the input reads as it did. -/
def fnExactStabiliserOfSpec : ChangeSpec := { name := "fnExactStabiliserOf", fn := fun _ => fun
  | [d1, d2, d3, d4] => { results := [.lit (.bool true)], args := [d1, d2, d3, d4] }
  | _ => none }
def fnExactStabiliserOfRow : OpenClaim := { program := "ytioendlbpendpaa", sum := "89cac42d38ba7bbeffab2b60d2dac8979c85b05c14c4fc6f75a5c3d9522e5c3b", func := "loop.example/g00943/laws.FnExactStabiliserOf", spec := "fnExactStabiliserOf", unfollowed := true, recurses := true, plainKeys := false, apart := false }
def FnExactStabiliserOfSaid : Prop := fnExactStabiliserOfRow.holds Try.pinned (OpenSpec.ofChange fnExactStabiliserOfSpec)

/-- ITS FALSE NEIGHBOUR: 'it returns false'. Refute it at one input. -/
def fnExactStabiliserOfWrong : ChangeSpec := { name := "fnExactStabiliserOf", fn := fun _ => fun
  | [d1, d2, d3, d4] => { results := [.lit (.bool false)], args := [d1, d2, d3, d4] }
  | _ => none }
def FnExactStabiliserOfWrongFalsely : Prop := fnExactStabiliserOfRow.holds Try.pinned (OpenSpec.ofChange fnExactStabiliserOfWrong)

/-- 'laws.FnExactCountUpTo': WHATEVER THE INPUT: true; the input reads as it did. -/
def fnExactCountUpToSpec : ChangeSpec := { name := "fnExactCountUpTo", fn := fun _ => fun
  | [d1, d2, d3, d4] => { results := [.lit (.bool true)], args := [d1, d2, d3, d4] }
  | _ => none }
def fnExactCountUpToRow : OpenClaim := { program := "ytioendlbpendpaa", sum := "89cac42d38ba7bbeffab2b60d2dac8979c85b05c14c4fc6f75a5c3d9522e5c3b", func := "loop.example/g00943/laws.FnExactCountUpTo", spec := "fnExactCountUpTo", unfollowed := true, recurses := true, plainKeys := false, apart := false }
def FnExactCountUpToSaid : Prop := fnExactCountUpToRow.holds Try.pinned (OpenSpec.ofChange fnExactCountUpToSpec)

/-- ITS FALSE NEIGHBOUR: 'it returns false'. Refute it at one input. -/
def fnExactCountUpToWrong : ChangeSpec := { name := "fnExactCountUpTo", fn := fun _ => fun
  | [d1, d2, d3, d4] => { results := [.lit (.bool false)], args := [d1, d2, d3, d4] }
  | _ => none }
def FnExactCountUpToWrongFalsely : Prop := fnExactCountUpToRow.holds Try.pinned (OpenSpec.ofChange fnExactCountUpToWrong)

/-- 'laws.FnExactAreStrokes': WHATEVER THE INPUT: true; the input reads as it did. -/
def fnExactAreStrokesSpec : ChangeSpec := { name := "fnExactAreStrokes", fn := fun _ => fun
  | [d1, d2, d3] => { results := [.lit (.bool true)], args := [d1, d2, d3] }
  | _ => none }
def fnExactAreStrokesRow : OpenClaim := { program := "ytioendlbpendpaa", sum := "89cac42d38ba7bbeffab2b60d2dac8979c85b05c14c4fc6f75a5c3d9522e5c3b", func := "loop.example/g00943/laws.FnExactAreStrokes", spec := "fnExactAreStrokes", unfollowed := true, recurses := true, plainKeys := false, apart := false }
def FnExactAreStrokesSaid : Prop := fnExactAreStrokesRow.holds Try.pinned (OpenSpec.ofChange fnExactAreStrokesSpec)

/-- ITS FALSE NEIGHBOUR: 'it returns false'. Refute it at one input. -/
def fnExactAreStrokesWrong : ChangeSpec := { name := "fnExactAreStrokes", fn := fun _ => fun
  | [d1, d2, d3] => { results := [.lit (.bool false)], args := [d1, d2, d3] }
  | _ => none }
def FnExactAreStrokesWrongFalsely : Prop := fnExactAreStrokesRow.holds Try.pinned (OpenSpec.ofChange fnExactAreStrokesWrong)

/- THE SECOND FORM. 'bulk': how many values and letters a reading holds, each counted each time it is reached (what is shared counts as often as it is met; a slice's spare places count too). A statement '..UptoSaid' is the law's where the arguments, and the package variables that the reading takes, are together of bulk at most 1048576: NARROWER than '..Said'. Prove '..Said' where nothing that the law and all that it calls make is longer than what came in: it says more and counts as full. Else prove '..UptoSaid'. A law counts once. -/
mutual
def uptoBulk {H : Type} : DataW H → Nat
  | .lit (.string bytes) => bytes.length + 1
  | .lit _ => 1
  | .nil => 1
  | .ptr d => uptoBulk d + 1
  | .slice elems spare => uptoBulkAll elems + uptoBulkAll spare + 1
  | .agg parts => uptoBulkAll parts + 1
  | .iface _ d => uptoBulk d + 1
  | .map entries => uptoBulkEntries entries + 1
  | .held _ => 1
def uptoBulkAll {H : Type} : List (DataW H) → Nat
  | [] => 0
  | d :: r => uptoBulk d + uptoBulkAll r
def uptoBulkEntries {H : Type} : List (Lit × DataW H) → Nat
  | [] => 0
  | x :: r => uptoBulkEntry x + uptoBulkEntries r
def uptoBulkEntry {H : Type} : Lit × DataW H → Nat
  | (.string bytes, d) => bytes.length + uptoBulk d + 1
  | (_, d) => uptoBulk d + 1
 end
def uptoSmall : (H : Type) → List (DataW H) → Bool := fun _ ds => decide (uptoBulkAll ds ≤ 1048576)
def OpenSpec.upto (s : _root_.Go.ChangeSpec) : _root_.Go.OpenSpec := { _root_.Go.OpenSpec.ofChange s with cond := some uptoSmall }

/-- 'laws.FnExactRollLength', WHERE WHAT IT READS IS OF BULK AT MOST 1048576: true; the input reads as it did. -/
def fnExactRollLengthUptoRow : OpenClaim := { program := "ytioendlbpendpaa", sum := "89cac42d38ba7bbeffab2b60d2dac8979c85b05c14c4fc6f75a5c3d9522e5c3b", func := "loop.example/g00943/laws.FnExactRollLength", spec := "fnExactRollLength", unfollowed := true, recurses := true, plainKeys := false, apart := false, narrowed := true }
def FnExactRollLengthUptoSaid : Prop := fnExactRollLengthUptoRow.holds Try.pinned (OpenSpec.upto fnExactRollLengthSpec)

/-- 'laws.FnExactPanelStarts', WHERE WHAT IT READS IS OF BULK AT MOST 1048576: true; the input reads as it did. -/
def fnExactPanelStartsUptoRow : OpenClaim := { program := "ytioendlbpendpaa", sum := "89cac42d38ba7bbeffab2b60d2dac8979c85b05c14c4fc6f75a5c3d9522e5c3b", func := "loop.example/g00943/laws.FnExactPanelStarts", spec := "fnExactPanelStarts", unfollowed := true, recurses := true, plainKeys := false, apart := false, narrowed := true }
def FnExactPanelStartsUptoSaid : Prop := fnExactPanelStartsUptoRow.holds Try.pinned (OpenSpec.upto fnExactPanelStartsSpec)

/-- 'laws.FnExactLostRows', WHERE WHAT IT READS IS OF BULK AT MOST 1048576: true; the input reads as it did. -/
def fnExactLostRowsUptoRow : OpenClaim := { program := "ytioendlbpendpaa", sum := "89cac42d38ba7bbeffab2b60d2dac8979c85b05c14c4fc6f75a5c3d9522e5c3b", func := "loop.example/g00943/laws.FnExactLostRows", spec := "fnExactLostRows", unfollowed := true, recurses := true, plainKeys := false, apart := false, narrowed := true }
def FnExactLostRowsUptoSaid : Prop := fnExactLostRowsUptoRow.holds Try.pinned (OpenSpec.upto fnExactLostRowsSpec)

/-- 'laws.FnExactCountFixed', WHERE WHAT IT READS IS OF BULK AT MOST 1048576: true; the input reads as it did. -/
def fnExactCountFixedUptoRow : OpenClaim := { program := "ytioendlbpendpaa", sum := "89cac42d38ba7bbeffab2b60d2dac8979c85b05c14c4fc6f75a5c3d9522e5c3b", func := "loop.example/g00943/laws.FnExactCountFixed", spec := "fnExactCountFixed", unfollowed := true, recurses := true, plainKeys := false, apart := false, narrowed := true }
def FnExactCountFixedUptoSaid : Prop := fnExactCountFixedUptoRow.holds Try.pinned (OpenSpec.upto fnExactCountFixedSpec)

/-- 'laws.FnExactCountCycles', WHERE WHAT IT READS IS OF BULK AT MOST 1048576: true; the input reads as it did. -/
def fnExactCountCyclesUptoRow : OpenClaim := { program := "ytioendlbpendpaa", sum := "89cac42d38ba7bbeffab2b60d2dac8979c85b05c14c4fc6f75a5c3d9522e5c3b", func := "loop.example/g00943/laws.FnExactCountCycles", spec := "fnExactCountCycles", unfollowed := true, recurses := true, plainKeys := false, apart := false, narrowed := true }
def FnExactCountCyclesUptoSaid : Prop := fnExactCountCyclesUptoRow.holds Try.pinned (OpenSpec.upto fnExactCountCyclesSpec)

/-- 'laws.FnExactMoverOf', WHERE WHAT IT READS IS OF BULK AT MOST 1048576: true; the input reads as it did. -/
def fnExactMoverOfUptoRow : OpenClaim := { program := "ytioendlbpendpaa", sum := "89cac42d38ba7bbeffab2b60d2dac8979c85b05c14c4fc6f75a5c3d9522e5c3b", func := "loop.example/g00943/laws.FnExactMoverOf", spec := "fnExactMoverOf", unfollowed := true, recurses := true, plainKeys := false, apart := false, narrowed := true }
def FnExactMoverOfUptoSaid : Prop := fnExactMoverOfUptoRow.holds Try.pinned (OpenSpec.upto fnExactMoverOfSpec)

/-- 'laws.FnExactStabiliserOf', WHERE WHAT IT READS IS OF BULK AT MOST 1048576: true; the input reads as it did. -/
def fnExactStabiliserOfUptoRow : OpenClaim := { program := "ytioendlbpendpaa", sum := "89cac42d38ba7bbeffab2b60d2dac8979c85b05c14c4fc6f75a5c3d9522e5c3b", func := "loop.example/g00943/laws.FnExactStabiliserOf", spec := "fnExactStabiliserOf", unfollowed := true, recurses := true, plainKeys := false, apart := false, narrowed := true }
def FnExactStabiliserOfUptoSaid : Prop := fnExactStabiliserOfUptoRow.holds Try.pinned (OpenSpec.upto fnExactStabiliserOfSpec)

/-- 'laws.FnExactCountUpTo', WHERE WHAT IT READS IS OF BULK AT MOST 1048576: true; the input reads as it did. -/
def fnExactCountUpToUptoRow : OpenClaim := { program := "ytioendlbpendpaa", sum := "89cac42d38ba7bbeffab2b60d2dac8979c85b05c14c4fc6f75a5c3d9522e5c3b", func := "loop.example/g00943/laws.FnExactCountUpTo", spec := "fnExactCountUpTo", unfollowed := true, recurses := true, plainKeys := false, apart := false, narrowed := true }
def FnExactCountUpToUptoSaid : Prop := fnExactCountUpToUptoRow.holds Try.pinned (OpenSpec.upto fnExactCountUpToSpec)

/-- 'laws.FnExactAreStrokes', WHERE WHAT IT READS IS OF BULK AT MOST 1048576: true; the input reads as it did. -/
def fnExactAreStrokesUptoRow : OpenClaim := { program := "ytioendlbpendpaa", sum := "89cac42d38ba7bbeffab2b60d2dac8979c85b05c14c4fc6f75a5c3d9522e5c3b", func := "loop.example/g00943/laws.FnExactAreStrokes", spec := "fnExactAreStrokes", unfollowed := true, recurses := true, plainKeys := false, apart := false, narrowed := true }
def FnExactAreStrokesUptoSaid : Prop := fnExactAreStrokesUptoRow.holds Try.pinned (OpenSpec.upto fnExactAreStrokesSpec)

end Rows
end Go.Proofs.Ytioendlbpendpaa
