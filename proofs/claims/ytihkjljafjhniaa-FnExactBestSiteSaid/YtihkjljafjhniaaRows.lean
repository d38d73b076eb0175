/-
  No cell of these rows narrows 'for every input' (looked for: loops, veiled, ifaces, maps, wideKeys, modest, calm, conditions, laid).
  DERIVED. THE GIVEN ROWS OF THIS SEAT. 11 by the template 'for every input the law returns true; each argument reads behind the call as it read before'; 0 by the template 'total and deterministic' (their statements: YtihkjljafjhniaaTotals.lean).
  GIVEN WITH THE SEED: the statements are not yours to turn. If you find one false, say at which input.
  Laid BY PROGRAM, IN A SANDBOX (cutbox-rows.mjs): the forced cells as the released guide's own fill.sh prints them over the translation fbc12151128a21bf… (all of the seat's roots in one cut). By AI agents, Wed Nov 11 2026. No macro, syntax, notation, axiom, sorry.
-/
import Derived.Test.YtihkjljafjhniaaChecked
import GoSem.Claim
import GoSem.ClaimJoined
import GoSem.ClaimMapViews
import Derived.JoinedTies
import Derived.KernelRfl
namespace Go.Proofs.Ytihkjljafjhniaa
/- THE CELL 'sum', in the pinned program and in every row, IS THE sha256 OF THE DUMP (.gsa) THAT YtihkjljafjhniaaProg.lean LOADS. Nothing in Lean hashes anything: it is a label: what it is worth is what the hold of that sum in a sandbox is worth. -/
noncomputable def Try.pinned : Pinned := { name := "ytihkjljafjhniaa", sum := "fbc12151128a21bfc963496c2d3b7b3aa8f262933ff2347b3171f0d9a1a15714", checked := Try.checked }
namespace Rows
def none {H : Type} : Left H := { results := [], args := [] }

/-- 'laws.FnExactFindShift': WHATEVER THE INPUT: true; the input reads as it did. -/
def fnExactFindShiftSpec : ChangeSpec := { name := "fnExactFindShift", fn := fun _ => fun
  | [d1, d2] => { results := [.lit (.bool true)], args := [d1, d2] }
  | _ => none }
def fnExactFindShiftRow : OpenClaim := { program := "ytihkjljafjhniaa", sum := "fbc12151128a21bfc963496c2d3b7b3aa8f262933ff2347b3171f0d9a1a15714", func := "loop.example/g00943/laws.FnExactFindShift", spec := "fnExactFindShift", unfollowed := true, recurses := true, plainKeys := false, apart := false }
def FnExactFindShiftSaid : Prop := fnExactFindShiftRow.holds Try.pinned (OpenSpec.ofChange fnExactFindShiftSpec)

/-- ITS FALSE NEIGHBOUR: 'it returns false'. Refute it at one input. -/
def fnExactFindShiftWrong : ChangeSpec := { name := "fnExactFindShift", fn := fun _ => fun
  | [d1, d2] => { results := [.lit (.bool false)], args := [d1, d2] }
  | _ => none }
def FnExactFindShiftWrongFalsely : Prop := fnExactFindShiftRow.holds Try.pinned (OpenSpec.ofChange fnExactFindShiftWrong)

/-- 'laws.FnExactCountGaps': WHATEVER THE INPUT: true; the input reads as it did. -/
def fnExactCountGapsSpec : ChangeSpec := { name := "fnExactCountGaps", fn := fun _ => fun
  | [d1, d2] => { results := [.lit (.bool true)], args := [d1, d2] }
  | _ => none }
def fnExactCountGapsRow : OpenClaim := { program := "ytihkjljafjhniaa", sum := "fbc12151128a21bfc963496c2d3b7b3aa8f262933ff2347b3171f0d9a1a15714", func := "loop.example/g00943/laws.FnExactCountGaps", spec := "fnExactCountGaps", unfollowed := true, recurses := true, plainKeys := false, apart := false }
def FnExactCountGapsSaid : Prop := fnExactCountGapsRow.holds Try.pinned (OpenSpec.ofChange fnExactCountGapsSpec)

/-- ITS FALSE NEIGHBOUR: 'it returns false'. Refute it at one input. -/
def fnExactCountGapsWrong : ChangeSpec := { name := "fnExactCountGaps", fn := fun _ => fun
  | [d1, d2] => { results := [.lit (.bool false)], args := [d1, d2] }
  | _ => none }
def FnExactCountGapsWrongFalsely : Prop := fnExactCountGapsRow.holds Try.pinned (OpenSpec.ofChange fnExactCountGapsWrong)

/-- 'laws.FnExactPrintShifted': WHATEVER THE INPUT: true; the input reads as it did. -/
def fnExactPrintShiftedSpec : ChangeSpec := { name := "fnExactPrintShifted", fn := fun _ => fun
  | [d1, d2] => { results := [.lit (.bool true)], args := [d1, d2] }
  | _ => none }
def fnExactPrintShiftedRow : OpenClaim := { program := "ytihkjljafjhniaa", sum := "fbc12151128a21bfc963496c2d3b7b3aa8f262933ff2347b3171f0d9a1a15714", func := "loop.example/g00943/laws.FnExactPrintShifted", spec := "fnExactPrintShifted", unfollowed := true, recurses := true, plainKeys := false, apart := false }
def FnExactPrintShiftedSaid : Prop := fnExactPrintShiftedRow.holds Try.pinned (OpenSpec.ofChange fnExactPrintShiftedSpec)

/-- ITS FALSE NEIGHBOUR: 'it returns false'. Refute it at one input. -/
def fnExactPrintShiftedWrong : ChangeSpec := { name := "fnExactPrintShifted", fn := fun _ => fun
  | [d1, d2] => { results := [.lit (.bool false)], args := [d1, d2] }
  | _ => none }
def FnExactPrintShiftedWrongFalsely : Prop := fnExactPrintShiftedRow.holds Try.pinned (OpenSpec.ofChange fnExactPrintShiftedWrong)

/-- 'laws.FnExactBestSite': WHATEVER THE INPUT: true; the input reads as it did. -/
def fnExactBestSiteSpec : ChangeSpec := { name := "fnExactBestSite", fn := fun _ => fun
  | [d] => { results := [.lit (.bool true)], args := [d] }
  | _ => none }
def fnExactBestSiteRow : OpenClaim := { program := "ytihkjljafjhniaa", sum := "fbc12151128a21bfc963496c2d3b7b3aa8f262933ff2347b3171f0d9a1a15714", func := "loop.example/g00943/laws.FnExactBestSite", spec := "fnExactBestSite", unfollowed := true, recurses := true, plainKeys := false, apart := false }
def FnExactBestSiteSaid : Prop := fnExactBestSiteRow.holds Try.pinned (OpenSpec.ofChange fnExactBestSiteSpec)

/-- ITS FALSE NEIGHBOUR: 'it returns false'. Refute it at one input. -/
def fnExactBestSiteWrong : ChangeSpec := { name := "fnExactBestSite", fn := fun _ => fun
  | [d] => { results := [.lit (.bool false)], args := [d] }
  | _ => none }
def FnExactBestSiteWrongFalsely : Prop := fnExactBestSiteRow.holds Try.pinned (OpenSpec.ofChange fnExactBestSiteWrong)

/-- 'laws.FnExactCountFixed': WHATEVER THE INPUT: true; the input reads as it did. -/
def fnExactCountFixedSpec : ChangeSpec := { name := "fnExactCountFixed", fn := fun _ => fun
  | [d1, d2, d3] => { results := [.lit (.bool true)], args := [d1, d2, d3] }
  | _ => none }
def fnExactCountFixedRow : OpenClaim := { program := "ytihkjljafjhniaa", sum := "fbc12151128a21bfc963496c2d3b7b3aa8f262933ff2347b3171f0d9a1a15714", func := "loop.example/g00943/laws.FnExactCountFixed", spec := "fnExactCountFixed", unfollowed := true, recurses := true, plainKeys := false, apart := false }
def FnExactCountFixedSaid : Prop := fnExactCountFixedRow.holds Try.pinned (OpenSpec.ofChange fnExactCountFixedSpec)

/-- ITS FALSE NEIGHBOUR: 'it returns false'. Refute it at one input. -/
def fnExactCountFixedWrong : ChangeSpec := { name := "fnExactCountFixed", fn := fun _ => fun
  | [d1, d2, d3] => { results := [.lit (.bool false)], args := [d1, d2, d3] }
  | _ => none }
def FnExactCountFixedWrongFalsely : Prop := fnExactCountFixedRow.holds Try.pinned (OpenSpec.ofChange fnExactCountFixedWrong)

/-- 'laws.FnExactCountCycles': WHATEVER THE INPUT: true; the input reads as it did. -/
def fnExactCountCyclesSpec : ChangeSpec := { name := "fnExactCountCycles", fn := fun _ => fun
  | [d1, d2, d3] => { results := [.lit (.bool true)], args := [d1, d2, d3] }
  | _ => none }
def fnExactCountCyclesRow : OpenClaim := { program := "ytihkjljafjhniaa", sum := "fbc12151128a21bfc963496c2d3b7b3aa8f262933ff2347b3171f0d9a1a15714", func := "loop.example/g00943/laws.FnExactCountCycles", spec := "fnExactCountCycles", unfollowed := true, recurses := true, plainKeys := false, apart := false }
def FnExactCountCyclesSaid : Prop := fnExactCountCyclesRow.holds Try.pinned (OpenSpec.ofChange fnExactCountCyclesSpec)

/-- ITS FALSE NEIGHBOUR: 'it returns false'. Refute it at one input. -/
def fnExactCountCyclesWrong : ChangeSpec := { name := "fnExactCountCycles", fn := fun _ => fun
  | [d1, d2, d3] => { results := [.lit (.bool false)], args := [d1, d2, d3] }
  | _ => none }
def FnExactCountCyclesWrongFalsely : Prop := fnExactCountCyclesRow.holds Try.pinned (OpenSpec.ofChange fnExactCountCyclesWrong)

/-- 'laws.FnExactMoverOf': WHATEVER THE INPUT: true; the input reads as it did. -/
def fnExactMoverOfSpec : ChangeSpec := { name := "fnExactMoverOf", fn := fun _ => fun
  | [d1, d2, d3, d4, d5] => { results := [.lit (.bool true)], args := [d1, d2, d3, d4, d5] }
  | _ => none }
def fnExactMoverOfRow : OpenClaim := { program := "ytihkjljafjhniaa", sum := "fbc12151128a21bfc963496c2d3b7b3aa8f262933ff2347b3171f0d9a1a15714", func := "loop.example/g00943/laws.FnExactMoverOf", spec := "fnExactMoverOf", unfollowed := true, recurses := true, plainKeys := false, apart := false }
def FnExactMoverOfSaid : Prop := fnExactMoverOfRow.holds Try.pinned (OpenSpec.ofChange fnExactMoverOfSpec)

/-- ITS FALSE NEIGHBOUR: 'it returns false'. Refute it at one input. -/
def fnExactMoverOfWrong : ChangeSpec := { name := "fnExactMoverOf", fn := fun _ => fun
  | [d1, d2, d3, d4, d5] => { results := [.lit (.bool false)], args := [d1, d2, d3, d4, d5] }
  | _ => none }
def FnExactMoverOfWrongFalsely : Prop := fnExactMoverOfRow.holds Try.pinned (OpenSpec.ofChange fnExactMoverOfWrong)

/-- 'laws.FnExactStabiliserOf': WHATEVER THE INPUT: true; the input reads as it did. -/
def fnExactStabiliserOfSpec : ChangeSpec := { name := "fnExactStabiliserOf", fn := fun _ => fun
  | [d1, d2, d3, d4] => { results := [.lit (.bool true)], args := [d1, d2, d3, d4] }
  | _ => none }
def fnExactStabiliserOfRow : OpenClaim := { program := "ytihkjljafjhniaa", sum := "fbc12151128a21bfc963496c2d3b7b3aa8f262933ff2347b3171f0d9a1a15714", func := "loop.example/g00943/laws.FnExactStabiliserOf", spec := "fnExactStabiliserOf", unfollowed := true, recurses := true, plainKeys := false, apart := false }
def FnExactStabiliserOfSaid : Prop := fnExactStabiliserOfRow.holds Try.pinned (OpenSpec.ofChange fnExactStabiliserOfSpec)

/-- ITS FALSE NEIGHBOUR: 'it returns false'. Refute it at one input. -/
def fnExactStabiliserOfWrong : ChangeSpec := { name := "fnExactStabiliserOf", fn := fun _ => fun
  | [d1, d2, d3, d4] => { results := [.lit (.bool false)], args := [d1, d2, d3, d4] }
  | _ => none }
def FnExactStabiliserOfWrongFalsely : Prop := fnExactStabiliserOfRow.holds Try.pinned (OpenSpec.ofChange fnExactStabiliserOfWrong)

/-- 'laws.FnExactCountUpTo': WHATEVER THE INPUT: true; the input reads as it did. -/
def fnExactCountUpToSpec : ChangeSpec := { name := "fnExactCountUpTo", fn := fun _ => fun
  | [d1, d2, d3, d4] => { results := [.lit (.bool true)], args := [d1, d2, d3, d4] }
  | _ => none }
def fnExactCountUpToRow : OpenClaim := { program := "ytihkjljafjhniaa", sum := "fbc12151128a21bfc963496c2d3b7b3aa8f262933ff2347b3171f0d9a1a15714", func := "loop.example/g00943/laws.FnExactCountUpTo", spec := "fnExactCountUpTo", unfollowed := true, recurses := true, plainKeys := false, apart := false }
def FnExactCountUpToSaid : Prop := fnExactCountUpToRow.holds Try.pinned (OpenSpec.ofChange fnExactCountUpToSpec)

/-- ITS FALSE NEIGHBOUR: 'it returns false'. Refute it at one input. -/
def fnExactCountUpToWrong : ChangeSpec := { name := "fnExactCountUpTo", fn := fun _ => fun
  | [d1, d2, d3, d4] => { results := [.lit (.bool false)], args := [d1, d2, d3, d4] }
  | _ => none }
def FnExactCountUpToWrongFalsely : Prop := fnExactCountUpToRow.holds Try.pinned (OpenSpec.ofChange fnExactCountUpToWrong)

/-- 'laws.FnExactAreStrokes': WHATEVER THE INPUT: true; the input reads as it did. -/
def fnExactAreStrokesSpec : ChangeSpec := { name := "fnExactAreStrokes", fn := fun _ => fun
  | [d1, d2, d3] => { results := [.lit (.bool true)], args := [d1, d2, d3] }
  | _ => none }
def fnExactAreStrokesRow : OpenClaim := { program := "ytihkjljafjhniaa", sum := "fbc12151128a21bfc963496c2d3b7b3aa8f262933ff2347b3171f0d9a1a15714", func := "loop.example/g00943/laws.FnExactAreStrokes", spec := "fnExactAreStrokes", unfollowed := true, recurses := true, plainKeys := false, apart := false }
def FnExactAreStrokesSaid : Prop := fnExactAreStrokesRow.holds Try.pinned (OpenSpec.ofChange fnExactAreStrokesSpec)

/-- ITS FALSE NEIGHBOUR: 'it returns false'. Refute it at one input. -/
def fnExactAreStrokesWrong : ChangeSpec := { name := "fnExactAreStrokes", fn := fun _ => fun
  | [d1, d2, d3] => { results := [.lit (.bool false)], args := [d1, d2, d3] }
  | _ => none }
def FnExactAreStrokesWrongFalsely : Prop := fnExactAreStrokesRow.holds Try.pinned (OpenSpec.ofChange fnExactAreStrokesWrong)

/-- 'laws.FnMasks': WHATEVER THE INPUT: true; the input reads as it did. -/
def fnMasksSpec : ChangeSpec := { name := "fnMasks", fn := fun _ => fun
  | [d] => { results := [.lit (.bool true)], args := [d] }
  | _ => none }
def fnMasksRow : OpenClaim := { program := "ytihkjljafjhniaa", sum := "fbc12151128a21bfc963496c2d3b7b3aa8f262933ff2347b3171f0d9a1a15714", func := "loop.example/g00943/laws.FnMasks", spec := "fnMasks", unfollowed := true, recurses := true, plainKeys := false, apart := false }
def FnMasksSaid : Prop := fnMasksRow.holds Try.pinned (OpenSpec.ofChange fnMasksSpec)

/-- ITS FALSE NEIGHBOUR: 'it returns false'. Refute it at one input. -/
def fnMasksWrong : ChangeSpec := { name := "fnMasks", fn := fun _ => fun
  | [d] => { results := [.lit (.bool false)], args := [d] }
  | _ => none }
def FnMasksWrongFalsely : Prop := fnMasksRow.holds Try.pinned (OpenSpec.ofChange fnMasksWrong)

/- THE SECOND FORM. 'bulk': how many values and letters a reading holds, each counted each time it is reached (what is shared counts as often as it is met; a slice's spare places count too). A statement '..UptoSaid' is the law's where the arguments, and the package variables that the reading takes, are together of bulk at most 1048576: NARROWER than '..Said'. Prove '..Said' where nothing that the law and all that it calls make is longer than what came in: it says more and counts as full. Else prove '..UptoSaid'. A law counts once. -/
mutual
def uptoBulk {H : Type} : DataW H → Nat
  | .lit (.string bytes) => bytes.length + 1
  | .lit _ => 1
  | .nil => 1
  | .ptr d => uptoBulk d + 1
  | .slice elems spare => uptoBulkAll elems + uptoBulkAll spare + 1
  | .agg parts => uptoBulkAll parts + 1
  | .iface _ d => uptoBulk d + 1
  | .map entries => uptoBulkEntries entries + 1
  | .held _ => 1
def uptoBulkAll {H : Type} : List (DataW H) → Nat
  | [] => 0
  | d :: r => uptoBulk d + uptoBulkAll r
def uptoBulkEntries {H : Type} : List (Lit × DataW H) → Nat
  | [] => 0
  | x :: r => uptoBulkEntry x + uptoBulkEntries r
def uptoBulkEntry {H : Type} : Lit × DataW H → Nat
  | (.string bytes, d) => bytes.length + uptoBulk d + 1
  | (_, d) => uptoBulk d + 1
 end
def uptoSmall : (H : Type) → List (DataW H) → Bool := fun _ ds => decide (uptoBulkAll ds ≤ 1048576)
def OpenSpec.upto (s : _root_.Go.ChangeSpec) : _root_.Go.OpenSpec := { _root_.Go.OpenSpec.ofChange s with cond := some uptoSmall }

/-- 'laws.FnExactFindShift', WHERE WHAT IT READS IS OF BULK AT MOST 1048576: true; the input reads as it did. -/
def fnExactFindShiftUptoRow : OpenClaim := { program := "ytihkjljafjhniaa", sum := "fbc12151128a21bfc963496c2d3b7b3aa8f262933ff2347b3171f0d9a1a15714", func := "loop.example/g00943/laws.FnExactFindShift", spec := "fnExactFindShift", unfollowed := true, recurses := true, plainKeys := false, apart := false, narrowed := true }
def FnExactFindShiftUptoSaid : Prop := fnExactFindShiftUptoRow.holds Try.pinned (OpenSpec.upto fnExactFindShiftSpec)

/-- 'laws.FnExactCountGaps', WHERE WHAT IT READS IS OF BULK AT MOST 1048576: true; the input reads as it did. -/
def fnExactCountGapsUptoRow : OpenClaim := { program := "ytihkjljafjhniaa", sum := "fbc12151128a21bfc963496c2d3b7b3aa8f262933ff2347b3171f0d9a1a15714", func := "loop.example/g00943/laws.FnExactCountGaps", spec := "fnExactCountGaps", unfollowed := true, recurses := true, plainKeys := false, apart := false, narrowed := true }
def FnExactCountGapsUptoSaid : Prop := fnExactCountGapsUptoRow.holds Try.pinned (OpenSpec.upto fnExactCountGapsSpec)

/-- 'laws.FnExactPrintShifted', WHERE WHAT IT READS IS OF BULK AT MOST 1048576: true; the input reads as it did. -/
def fnExactPrintShiftedUptoRow : OpenClaim := { program := "ytihkjljafjhniaa", sum := "fbc12151128a21bfc963496c2d3b7b3aa8f262933ff2347b3171f0d9a1a15714", func := "loop.example/g00943/laws.FnExactPrintShifted", spec := "fnExactPrintShifted", unfollowed := true, recurses := true, plainKeys := false, apart := false, narrowed := true }
def FnExactPrintShiftedUptoSaid : Prop := fnExactPrintShiftedUptoRow.holds Try.pinned (OpenSpec.upto fnExactPrintShiftedSpec)

/-- 'laws.FnExactBestSite', WHERE WHAT IT READS IS OF BULK AT MOST 1048576: true; the input reads as it did. -/
def fnExactBestSiteUptoRow : OpenClaim := { program := "ytihkjljafjhniaa", sum := "fbc12151128a21bfc963496c2d3b7b3aa8f262933ff2347b3171f0d9a1a15714", func := "loop.example/g00943/laws.FnExactBestSite", spec := "fnExactBestSite", unfollowed := true, recurses := true, plainKeys := false, apart := false, narrowed := true }
def FnExactBestSiteUptoSaid : Prop := fnExactBestSiteUptoRow.holds Try.pinned (OpenSpec.upto fnExactBestSiteSpec)

/-- 'laws.FnExactCountFixed', WHERE WHAT IT READS IS OF BULK AT MOST 1048576: true; the input reads as it did. -/
def fnExactCountFixedUptoRow : OpenClaim := { program := "ytihkjljafjhniaa", sum := "fbc12151128a21bfc963496c2d3b7b3aa8f262933ff2347b3171f0d9a1a15714", func := "loop.example/g00943/laws.FnExactCountFixed", spec := "fnExactCountFixed", unfollowed := true, recurses := true, plainKeys := false, apart := false, narrowed := true }
def FnExactCountFixedUptoSaid : Prop := fnExactCountFixedUptoRow.holds Try.pinned (OpenSpec.upto fnExactCountFixedSpec)

/-- 'laws.FnExactCountCycles', WHERE WHAT IT READS IS OF BULK AT MOST 1048576: true; the input reads as it did. -/
def fnExactCountCyclesUptoRow : OpenClaim := { program := "ytihkjljafjhniaa", sum := "fbc12151128a21bfc963496c2d3b7b3aa8f262933ff2347b3171f0d9a1a15714", func := "loop.example/g00943/laws.FnExactCountCycles", spec := "fnExactCountCycles", unfollowed := true, recurses := true, plainKeys := false, apart := false, narrowed := true }
def FnExactCountCyclesUptoSaid : Prop := fnExactCountCyclesUptoRow.holds Try.pinned (OpenSpec.upto fnExactCountCyclesSpec)

/-- 'laws.FnExactMoverOf', WHERE WHAT IT READS IS OF BULK AT MOST 1048576: true; the input reads as it did. -/
def fnExactMoverOfUptoRow : OpenClaim := { program := "ytihkjljafjhniaa", sum := "fbc12151128a21bfc963496c2d3b7b3aa8f262933ff2347b3171f0d9a1a15714", func := "loop.example/g00943/laws.FnExactMoverOf", spec := "fnExactMoverOf", unfollowed := true, recurses := true, plainKeys := false, apart := false, narrowed := true }
def FnExactMoverOfUptoSaid : Prop := fnExactMoverOfUptoRow.holds Try.pinned (OpenSpec.upto fnExactMoverOfSpec)

/-- 'laws.FnExactStabiliserOf', WHERE WHAT IT READS IS OF BULK AT MOST 1048576: true; the input reads as it did. -/
def fnExactStabiliserOfUptoRow : OpenClaim := { program := "ytihkjljafjhniaa", sum := "fbc12151128a21bfc963496c2d3b7b3aa8f262933ff2347b3171f0d9a1a15714", func := "loop.example/g00943/laws.FnExactStabiliserOf", spec := "fnExactStabiliserOf", unfollowed := true, recurses := true, plainKeys := false, apart := false, narrowed := true }
def FnExactStabiliserOfUptoSaid : Prop := fnExactStabiliserOfUptoRow.holds Try.pinned (OpenSpec.upto fnExactStabiliserOfSpec)

/-- 'laws.FnExactCountUpTo', WHERE WHAT IT READS IS OF BULK AT MOST 1048576: true; the input reads as it did. -/
def fnExactCountUpToUptoRow : OpenClaim := { program := "ytihkjljafjhniaa", sum := "fbc12151128a21bfc963496c2d3b7b3aa8f262933ff2347b3171f0d9a1a15714", func := "loop.example/g00943/laws.FnExactCountUpTo", spec := "fnExactCountUpTo", unfollowed := true, recurses := true, plainKeys := false, apart := false, narrowed := true }
def FnExactCountUpToUptoSaid : Prop := fnExactCountUpToUptoRow.holds Try.pinned (OpenSpec.upto fnExactCountUpToSpec)

/-- 'laws.FnExactAreStrokes', WHERE WHAT IT READS IS OF BULK AT MOST 1048576: true; the input reads as it did. -/
def fnExactAreStrokesUptoRow : OpenClaim := { program := "ytihkjljafjhniaa", sum := "fbc12151128a21bfc963496c2d3b7b3aa8f262933ff2347b3171f0d9a1a15714", func := "loop.example/g00943/laws.FnExactAreStrokes", spec := "fnExactAreStrokes", unfollowed := true, recurses := true, plainKeys := false, apart := false, narrowed := true }
def FnExactAreStrokesUptoSaid : Prop := fnExactAreStrokesUptoRow.holds Try.pinned (OpenSpec.upto fnExactAreStrokesSpec)

/-- 'laws.FnMasks', WHERE WHAT IT READS IS OF BULK AT MOST 1048576: true; the input reads as it did. -/
def fnMasksUptoRow : OpenClaim := { program := "ytihkjljafjhniaa", sum := "fbc12151128a21bfc963496c2d3b7b3aa8f262933ff2347b3171f0d9a1a15714", func := "loop.example/g00943/laws.FnMasks", spec := "fnMasks", unfollowed := true, recurses := true, plainKeys := false, apart := false, narrowed := true }
def FnMasksUptoSaid : Prop := fnMasksUptoRow.holds Try.pinned (OpenSpec.upto fnMasksSpec)

end Rows
end Go.Proofs.Ytihkjljafjhniaa
