/-
  No cell of these rows narrows 'for every input' (looked for: loops, veiled, ifaces, maps, wideKeys, modest, calm, conditions, laid).
  DERIVED. THE GIVEN ROWS OF THIS SEAT. 11 by the template 'for every input the law returns true; each argument reads behind the call as it read before'; 0 by the template 'total and deterministic' (their statements: YtomgliinndfliaaTotals.lean).
  GIVEN WITH THE SEED: the statements are not yours to turn. If you find one false, say at which input.
  Laid BY PROGRAM, IN A SANDBOX (cutbox-rows.mjs): the forced cells as the released guide's own fill.sh prints them over the translation 0c56e58c0ae9cfd5… (all of the seat's roots in one cut). By AI agents, Wed Nov 11 2026. No macro, syntax, notation, axiom, sorry.
-/
import Derived.Test.YtomgliinndfliaaChecked
import GoSem.Claim
import GoSem.ClaimJoined
import GoSem.ClaimMapViews
import Derived.JoinedTies
import Derived.KernelRfl
namespace Go.Proofs.Ytomgliinndfliaa
/- THE CELL 'sum', in the pinned program and in every row, IS THE sha256 OF THE DUMP (.gsa) THAT YtomgliinndfliaaProg.lean LOADS. Nothing in Lean hashes anything: it is a label: what it is worth is what the hold of that sum in a sandbox is worth. -/
noncomputable def Try.pinned : Pinned := { name := "ytomgliinndfliaa", sum := "0c56e58c0ae9cfd55d82287539bdd7ce5087504c3d508a6e6eb673ad009c9259", checked := Try.checked }
namespace Rows
def none {H : Type} : Left H := { results := [], args := [] }

/-- 'laws.FnExactSpreadMask': WHATEVER THE INPUT: true; the input reads as it did. -/
def fnExactSpreadMaskSpec : ChangeSpec := { name := "fnExactSpreadMask", fn := fun _ => fun
  | [d] => { results := [.lit (.bool true)], args := [d] }
  | _ => none }
def fnExactSpreadMaskRow : OpenClaim := { program := "ytomgliinndfliaa", sum := "0c56e58c0ae9cfd55d82287539bdd7ce5087504c3d508a6e6eb673ad009c9259", func := "loop.example/g00943/laws.FnExactSpreadMask", spec := "fnExactSpreadMask", unfollowed := true, recurses := true, apart := false }
def FnExactSpreadMaskSaid : Prop := fnExactSpreadMaskRow.holds Try.pinned (OpenSpec.ofChange fnExactSpreadMaskSpec)

/-- ITS FALSE NEIGHBOUR: 'it returns false'. Refute it at one input. -/
def fnExactSpreadMaskWrong : ChangeSpec := { name := "fnExactSpreadMask", fn := fun _ => fun
  | [d] => { results := [.lit (.bool false)], args := [d] }
  | _ => none }
def FnExactSpreadMaskWrongFalsely : Prop := fnExactSpreadMaskRow.holds Try.pinned (OpenSpec.ofChange fnExactSpreadMaskWrong)

/-- 'laws.FnExactFindShift': WHATEVER THE INPUT: true; the input reads as it did. -/
def fnExactFindShiftSpec : ChangeSpec := { name := "fnExactFindShift", fn := fun _ => fun
  | [d1, d2] => { results := [.lit (.bool true)], args := [d1, d2] }
  | _ => none }
def fnExactFindShiftRow : OpenClaim := { program := "ytomgliinndfliaa", sum := "0c56e58c0ae9cfd55d82287539bdd7ce5087504c3d508a6e6eb673ad009c9259", func := "loop.example/g00943/laws.FnExactFindShift", spec := "fnExactFindShift", unfollowed := true, recurses := true, apart := false }
def FnExactFindShiftSaid : Prop := fnExactFindShiftRow.holds Try.pinned (OpenSpec.ofChange fnExactFindShiftSpec)

/-- ITS FALSE NEIGHBOUR: 'it returns false'. Refute it at one input. -/
def fnExactFindShiftWrong : ChangeSpec := { name := "fnExactFindShift", fn := fun _ => fun
  | [d1, d2] => { results := [.lit (.bool false)], args := [d1, d2] }
  | _ => none }
def FnExactFindShiftWrongFalsely : Prop := fnExactFindShiftRow.holds Try.pinned (OpenSpec.ofChange fnExactFindShiftWrong)

/-- 'laws.FnExactCountGaps': WHATEVER THE INPUT: true; the input reads as it did. -/
def fnExactCountGapsSpec : ChangeSpec := { name := "fnExactCountGaps", fn := fun _ => fun
  | [d1, d2] => { results := [.lit (.bool true)], args := [d1, d2] }
  | _ => none }
def fnExactCountGapsRow : OpenClaim := { program := "ytomgliinndfliaa", sum := "0c56e58c0ae9cfd55d82287539bdd7ce5087504c3d508a6e6eb673ad009c9259", func := "loop.example/g00943/laws.FnExactCountGaps", spec := "fnExactCountGaps", unfollowed := true, recurses := true, apart := false }
def FnExactCountGapsSaid : Prop := fnExactCountGapsRow.holds Try.pinned (OpenSpec.ofChange fnExactCountGapsSpec)

/-- ITS FALSE NEIGHBOUR: 'it returns false'. Refute it at one input. -/
def fnExactCountGapsWrong : ChangeSpec := { name := "fnExactCountGaps", fn := fun _ => fun
  | [d1, d2] => { results := [.lit (.bool false)], args := [d1, d2] }
  | _ => none }
def FnExactCountGapsWrongFalsely : Prop := fnExactCountGapsRow.holds Try.pinned (OpenSpec.ofChange fnExactCountGapsWrong)

/-- 'laws.FnExactPrintShifted': WHATEVER THE INPUT: true; the input reads as it did. -/
def fnExactPrintShiftedSpec : ChangeSpec := { name := "fnExactPrintShifted", fn := fun _ => fun
  | [d1, d2] => { results := [.lit (.bool true)], args := [d1, d2] }
  | _ => none }
def fnExactPrintShiftedRow : OpenClaim := { program := "ytomgliinndfliaa", sum := "0c56e58c0ae9cfd55d82287539bdd7ce5087504c3d508a6e6eb673ad009c9259", func := "loop.example/g00943/laws.FnExactPrintShifted", spec := "fnExactPrintShifted", unfollowed := true, recurses := true, apart := false }
def FnExactPrintShiftedSaid : Prop := fnExactPrintShiftedRow.holds Try.pinned (OpenSpec.ofChange fnExactPrintShiftedSpec)

/-- ITS FALSE NEIGHBOUR: 'it returns false'. Refute it at one input. -/
def fnExactPrintShiftedWrong : ChangeSpec := { name := "fnExactPrintShifted", fn := fun _ => fun
  | [d1, d2] => { results := [.lit (.bool false)], args := [d1, d2] }
  | _ => none }
def FnExactPrintShiftedWrongFalsely : Prop := fnExactPrintShiftedRow.holds Try.pinned (OpenSpec.ofChange fnExactPrintShiftedWrong)

/-- 'laws.FnMasks': WHATEVER THE INPUT: true; the input reads as it did. -/
def fnMasksSpec : ChangeSpec := { name := "fnMasks", fn := fun _ => fun
  | [d] => { results := [.lit (.bool true)], args := [d] }
  | _ => none }
def fnMasksRow : OpenClaim := { program := "ytomgliinndfliaa", sum := "0c56e58c0ae9cfd55d82287539bdd7ce5087504c3d508a6e6eb673ad009c9259", func := "loop.example/g00943/laws.FnMasks", spec := "fnMasks", unfollowed := true, recurses := true, apart := false }
def FnMasksSaid : Prop := fnMasksRow.holds Try.pinned (OpenSpec.ofChange fnMasksSpec)

/-- ITS FALSE NEIGHBOUR: 'it returns false'. Refute it at one input. -/
def fnMasksWrong : ChangeSpec := { name := "fnMasks", fn := fun _ => fun
  | [d] => { results := [.lit (.bool false)], args := [d] }
  | _ => none }
def FnMasksWrongFalsely : Prop := fnMasksRow.holds Try.pinned (OpenSpec.ofChange fnMasksWrong)

/-- 'laws.FnExactBestSite': WHATEVER THE INPUT: true; the input reads as it did. -/
def fnExactBestSiteSpec : ChangeSpec := { name := "fnExactBestSite", fn := fun _ => fun
  | [d] => { results := [.lit (.bool true)], args := [d] }
  | _ => none }
def fnExactBestSiteRow : OpenClaim := { program := "ytomgliinndfliaa", sum := "0c56e58c0ae9cfd55d82287539bdd7ce5087504c3d508a6e6eb673ad009c9259", func := "loop.example/g00943/laws.FnExactBestSite", spec := "fnExactBestSite", unfollowed := true, recurses := true, apart := false }
def FnExactBestSiteSaid : Prop := fnExactBestSiteRow.holds Try.pinned (OpenSpec.ofChange fnExactBestSiteSpec)

/-- ITS FALSE NEIGHBOUR: 'it returns false'. Refute it at one input. -/
def fnExactBestSiteWrong : ChangeSpec := { name := "fnExactBestSite", fn := fun _ => fun
  | [d] => { results := [.lit (.bool false)], args := [d] }
  | _ => none }
def FnExactBestSiteWrongFalsely : Prop := fnExactBestSiteRow.holds Try.pinned (OpenSpec.ofChange fnExactBestSiteWrong)

/-- 'laws.FnExactRepeatOf': WHATEVER THE INPUT: true; the input reads as it did. -/
def fnExactRepeatOfSpec : ChangeSpec := { name := "fnExactRepeatOf", fn := fun _ => fun
  | [d] => { results := [.lit (.bool true)], args := [d] }
  | _ => none }
def fnExactRepeatOfRow : OpenClaim := { program := "ytomgliinndfliaa", sum := "0c56e58c0ae9cfd55d82287539bdd7ce5087504c3d508a6e6eb673ad009c9259", func := "loop.example/g00943/laws.FnExactRepeatOf", spec := "fnExactRepeatOf", unfollowed := true, recurses := true, apart := false }
def FnExactRepeatOfSaid : Prop := fnExactRepeatOfRow.holds Try.pinned (OpenSpec.ofChange fnExactRepeatOfSpec)

/-- ITS FALSE NEIGHBOUR: 'it returns false'. Refute it at one input. -/
def fnExactRepeatOfWrong : ChangeSpec := { name := "fnExactRepeatOf", fn := fun _ => fun
  | [d] => { results := [.lit (.bool false)], args := [d] }
  | _ => none }
def FnExactRepeatOfWrongFalsely : Prop := fnExactRepeatOfRow.holds Try.pinned (OpenSpec.ofChange fnExactRepeatOfWrong)

/-- 'laws.FnExactRollersFor': WHATEVER THE INPUT: true; the input reads as it did. -/
def fnExactRollersForSpec : ChangeSpec := { name := "fnExactRollersFor", fn := fun _ => fun
  | [d1, d2] => { results := [.lit (.bool true)], args := [d1, d2] }
  | _ => none }
def fnExactRollersForRow : OpenClaim := { program := "ytomgliinndfliaa", sum := "0c56e58c0ae9cfd55d82287539bdd7ce5087504c3d508a6e6eb673ad009c9259", func := "loop.example/g00943/laws.FnExactRollersFor", spec := "fnExactRollersFor", unfollowed := true, recurses := true, apart := false }
def FnExactRollersForSaid : Prop := fnExactRollersForRow.holds Try.pinned (OpenSpec.ofChange fnExactRollersForSpec)

/-- ITS FALSE NEIGHBOUR: 'it returns false'. Refute it at one input. -/
def fnExactRollersForWrong : ChangeSpec := { name := "fnExactRollersFor", fn := fun _ => fun
  | [d1, d2] => { results := [.lit (.bool false)], args := [d1, d2] }
  | _ => none }
def FnExactRollersForWrongFalsely : Prop := fnExactRollersForRow.holds Try.pinned (OpenSpec.ofChange fnExactRollersForWrong)

/-- 'laws.FnExactStrideOf': WHATEVER THE INPUT: true; the input reads as it did. -/
def fnExactStrideOfSpec : ChangeSpec := { name := "fnExactStrideOf", fn := fun _ => fun
  | [d] => { results := [.lit (.bool true)], args := [d] }
  | _ => none }
def fnExactStrideOfRow : OpenClaim := { program := "ytomgliinndfliaa", sum := "0c56e58c0ae9cfd55d82287539bdd7ce5087504c3d508a6e6eb673ad009c9259", func := "loop.example/g00943/laws.FnExactStrideOf", spec := "fnExactStrideOf", unfollowed := true, recurses := true, apart := false }
def FnExactStrideOfSaid : Prop := fnExactStrideOfRow.holds Try.pinned (OpenSpec.ofChange fnExactStrideOfSpec)

/-- ITS FALSE NEIGHBOUR: 'it returns false'. Refute it at one input. -/
def fnExactStrideOfWrong : ChangeSpec := { name := "fnExactStrideOf", fn := fun _ => fun
  | [d] => { results := [.lit (.bool false)], args := [d] }
  | _ => none }
def FnExactStrideOfWrongFalsely : Prop := fnExactStrideOfRow.holds Try.pinned (OpenSpec.ofChange fnExactStrideOfWrong)

/-- 'laws.FnExactDropOf': WHATEVER THE INPUT: true; the input reads as it did. -/
def fnExactDropOfSpec : ChangeSpec := { name := "fnExactDropOf", fn := fun _ => fun
  | [d1, d2] => { results := [.lit (.bool true)], args := [d1, d2] }
  | _ => none }
def fnExactDropOfRow : OpenClaim := { program := "ytomgliinndfliaa", sum := "0c56e58c0ae9cfd55d82287539bdd7ce5087504c3d508a6e6eb673ad009c9259", func := "loop.example/g00943/laws.FnExactDropOf", spec := "fnExactDropOf", unfollowed := true, recurses := true, apart := false }
def FnExactDropOfSaid : Prop := fnExactDropOfRow.holds Try.pinned (OpenSpec.ofChange fnExactDropOfSpec)

/-- ITS FALSE NEIGHBOUR: 'it returns false'. Refute it at one input. -/
def fnExactDropOfWrong : ChangeSpec := { name := "fnExactDropOf", fn := fun _ => fun
  | [d1, d2] => { results := [.lit (.bool false)], args := [d1, d2] }
  | _ => none }
def FnExactDropOfWrongFalsely : Prop := fnExactDropOfRow.holds Try.pinned (OpenSpec.ofChange fnExactDropOfWrong)

/-- 'laws.FnExactPanelsFrom': WHATEVER THE INPUT: true; the input reads as it did. -/
def fnExactPanelsFromSpec : ChangeSpec := { name := "fnExactPanelsFrom", fn := fun _ => fun
  | [d1, d2, d3, d4] => { results := [.lit (.bool true)], args := [d1, d2, d3, d4] }
  | _ => none }
def fnExactPanelsFromRow : OpenClaim := { program := "ytomgliinndfliaa", sum := "0c56e58c0ae9cfd55d82287539bdd7ce5087504c3d508a6e6eb673ad009c9259", func := "loop.example/g00943/laws.FnExactPanelsFrom", spec := "fnExactPanelsFrom", unfollowed := true, recurses := true, apart := false }
def FnExactPanelsFromSaid : Prop := fnExactPanelsFromRow.holds Try.pinned (OpenSpec.ofChange fnExactPanelsFromSpec)

/-- ITS FALSE NEIGHBOUR: 'it returns false'. Refute it at one input. -/
def fnExactPanelsFromWrong : ChangeSpec := { name := "fnExactPanelsFrom", fn := fun _ => fun
  | [d1, d2, d3, d4] => { results := [.lit (.bool false)], args := [d1, d2, d3, d4] }
  | _ => none }
def FnExactPanelsFromWrongFalsely : Prop := fnExactPanelsFromRow.holds Try.pinned (OpenSpec.ofChange fnExactPanelsFromWrong)

/- THE SECOND FORM. 'bulk': how many values and letters a reading holds, each counted each time it is reached (what is shared counts as often as it is met; a slice's spare places count too). A statement '..UptoSaid' is the law's where the arguments, and the package variables that the reading takes, are together of bulk at most 1048576: NARROWER than '..Said'. Prove '..Said' where nothing that the law and all that it calls make is longer than what came in: it says more and counts as full. Else prove '..UptoSaid'. A law counts once. -/
mutual
def uptoBulk {H : Type} : DataW H → Nat
  | .lit (.string bytes) => bytes.length + 1
  | .lit _ => 1
  | .nil => 1
  | .ptr d => uptoBulk d + 1
  | .slice elems spare => uptoBulkAll elems + uptoBulkAll spare + 1
  | .agg parts => uptoBulkAll parts + 1
  | .iface _ d => uptoBulk d + 1
  | .map entries => uptoBulkEntries entries + 1
  | .held _ => 1
def uptoBulkAll {H : Type} : List (DataW H) → Nat
  | [] => 0
  | d :: r => uptoBulk d + uptoBulkAll r
def uptoBulkEntries {H : Type} : List (Lit × DataW H) → Nat
  | [] => 0
  | x :: r => uptoBulkEntry x + uptoBulkEntries r
def uptoBulkEntry {H : Type} : Lit × DataW H → Nat
  | (.string bytes, d) => bytes.length + uptoBulk d + 1
  | (_, d) => uptoBulk d + 1
 end
def uptoSmall : (H : Type) → List (DataW H) → Bool := fun _ ds => decide (uptoBulkAll ds ≤ 1048576)
def OpenSpec.upto (s : _root_.Go.ChangeSpec) : _root_.Go.OpenSpec := { _root_.Go.OpenSpec.ofChange s with cond := some uptoSmall }

/-- 'laws.FnExactSpreadMask', WHERE WHAT IT READS IS OF BULK AT MOST 1048576: true; the input reads as it did. -/
def fnExactSpreadMaskUptoRow : OpenClaim := { program := "ytomgliinndfliaa", sum := "0c56e58c0ae9cfd55d82287539bdd7ce5087504c3d508a6e6eb673ad009c9259", func := "loop.example/g00943/laws.FnExactSpreadMask", spec := "fnExactSpreadMask", unfollowed := true, recurses := true, apart := false, narrowed := true }
def FnExactSpreadMaskUptoSaid : Prop := fnExactSpreadMaskUptoRow.holds Try.pinned (OpenSpec.upto fnExactSpreadMaskSpec)

/-- 'laws.FnExactFindShift', WHERE WHAT IT READS IS OF BULK AT MOST 1048576: true; the input reads as it did. -/
def fnExactFindShiftUptoRow : OpenClaim := { program := "ytomgliinndfliaa", sum := "0c56e58c0ae9cfd55d82287539bdd7ce5087504c3d508a6e6eb673ad009c9259", func := "loop.example/g00943/laws.FnExactFindShift", spec := "fnExactFindShift", unfollowed := true, recurses := true, apart := false, narrowed := true }
def FnExactFindShiftUptoSaid : Prop := fnExactFindShiftUptoRow.holds Try.pinned (OpenSpec.upto fnExactFindShiftSpec)

/-- 'laws.FnExactCountGaps', WHERE WHAT IT READS IS OF BULK AT MOST 1048576: true; the input reads as it did. -/
def fnExactCountGapsUptoRow : OpenClaim := { program := "ytomgliinndfliaa", sum := "0c56e58c0ae9cfd55d82287539bdd7ce5087504c3d508a6e6eb673ad009c9259", func := "loop.example/g00943/laws.FnExactCountGaps", spec := "fnExactCountGaps", unfollowed := true, recurses := true, apart := false, narrowed := true }
def FnExactCountGapsUptoSaid : Prop := fnExactCountGapsUptoRow.holds Try.pinned (OpenSpec.upto fnExactCountGapsSpec)

/-- 'laws.FnExactPrintShifted', WHERE WHAT IT READS IS OF BULK AT MOST 1048576: true; the input reads as it did. -/
def fnExactPrintShiftedUptoRow : OpenClaim := { program := "ytomgliinndfliaa", sum := "0c56e58c0ae9cfd55d82287539bdd7ce5087504c3d508a6e6eb673ad009c9259", func := "loop.example/g00943/laws.FnExactPrintShifted", spec := "fnExactPrintShifted", unfollowed := true, recurses := true, apart := false, narrowed := true }
def FnExactPrintShiftedUptoSaid : Prop := fnExactPrintShiftedUptoRow.holds Try.pinned (OpenSpec.upto fnExactPrintShiftedSpec)

/-- 'laws.FnMasks', WHERE WHAT IT READS IS OF BULK AT MOST 1048576: true; the input reads as it did. -/
def fnMasksUptoRow : OpenClaim := { program := "ytomgliinndfliaa", sum := "0c56e58c0ae9cfd55d82287539bdd7ce5087504c3d508a6e6eb673ad009c9259", func := "loop.example/g00943/laws.FnMasks", spec := "fnMasks", unfollowed := true, recurses := true, apart := false, narrowed := true }
def FnMasksUptoSaid : Prop := fnMasksUptoRow.holds Try.pinned (OpenSpec.upto fnMasksSpec)

/-- 'laws.FnExactBestSite', WHERE WHAT IT READS IS OF BULK AT MOST 1048576: true; the input reads as it did. -/
def fnExactBestSiteUptoRow : OpenClaim := { program := "ytomgliinndfliaa", sum := "0c56e58c0ae9cfd55d82287539bdd7ce5087504c3d508a6e6eb673ad009c9259", func := "loop.example/g00943/laws.FnExactBestSite", spec := "fnExactBestSite", unfollowed := true, recurses := true, apart := false, narrowed := true }
def FnExactBestSiteUptoSaid : Prop := fnExactBestSiteUptoRow.holds Try.pinned (OpenSpec.upto fnExactBestSiteSpec)

/-- 'laws.FnExactRepeatOf', WHERE WHAT IT READS IS OF BULK AT MOST 1048576: true; the input reads as it did. -/
def fnExactRepeatOfUptoRow : OpenClaim := { program := "ytomgliinndfliaa", sum := "0c56e58c0ae9cfd55d82287539bdd7ce5087504c3d508a6e6eb673ad009c9259", func := "loop.example/g00943/laws.FnExactRepeatOf", spec := "fnExactRepeatOf", unfollowed := true, recurses := true, apart := false, narrowed := true }
def FnExactRepeatOfUptoSaid : Prop := fnExactRepeatOfUptoRow.holds Try.pinned (OpenSpec.upto fnExactRepeatOfSpec)

/-- 'laws.FnExactRollersFor', WHERE WHAT IT READS IS OF BULK AT MOST 1048576: true; the input reads as it did. -/
def fnExactRollersForUptoRow : OpenClaim := { program := "ytomgliinndfliaa", sum := "0c56e58c0ae9cfd55d82287539bdd7ce5087504c3d508a6e6eb673ad009c9259", func := "loop.example/g00943/laws.FnExactRollersFor", spec := "fnExactRollersFor", unfollowed := true, recurses := true, apart := false, narrowed := true }
def FnExactRollersForUptoSaid : Prop := fnExactRollersForUptoRow.holds Try.pinned (OpenSpec.upto fnExactRollersForSpec)

/-- 'laws.FnExactStrideOf', WHERE WHAT IT READS IS OF BULK AT MOST 1048576: true; the input reads as it did. -/
def fnExactStrideOfUptoRow : OpenClaim := { program := "ytomgliinndfliaa", sum := "0c56e58c0ae9cfd55d82287539bdd7ce5087504c3d508a6e6eb673ad009c9259", func := "loop.example/g00943/laws.FnExactStrideOf", spec := "fnExactStrideOf", unfollowed := true, recurses := true, apart := false, narrowed := true }
def FnExactStrideOfUptoSaid : Prop := fnExactStrideOfUptoRow.holds Try.pinned (OpenSpec.upto fnExactStrideOfSpec)

/-- 'laws.FnExactDropOf', WHERE WHAT IT READS IS OF BULK AT MOST 1048576: true; the input reads as it did. -/
def fnExactDropOfUptoRow : OpenClaim := { program := "ytomgliinndfliaa", sum := "0c56e58c0ae9cfd55d82287539bdd7ce5087504c3d508a6e6eb673ad009c9259", func := "loop.example/g00943/laws.FnExactDropOf", spec := "fnExactDropOf", unfollowed := true, recurses := true, apart := false, narrowed := true }
def FnExactDropOfUptoSaid : Prop := fnExactDropOfUptoRow.holds Try.pinned (OpenSpec.upto fnExactDropOfSpec)

/-- 'laws.FnExactPanelsFrom', WHERE WHAT IT READS IS OF BULK AT MOST 1048576: true; the input reads as it did. -/
def fnExactPanelsFromUptoRow : OpenClaim := { program := "ytomgliinndfliaa", sum := "0c56e58c0ae9cfd55d82287539bdd7ce5087504c3d508a6e6eb673ad009c9259", func := "loop.example/g00943/laws.FnExactPanelsFrom", spec := "fnExactPanelsFrom", unfollowed := true, recurses := true, apart := false, narrowed := true }
def FnExactPanelsFromUptoSaid : Prop := fnExactPanelsFromUptoRow.holds Try.pinned (OpenSpec.upto fnExactPanelsFromSpec)

end Rows
end Go.Proofs.Ytomgliinndfliaa
