/-
  NARROWER THAN 'FOR EVERY INPUT', by the rows' own cells (each row's printed sentence says how): FnExactIsWord: laid · FnExactEndOfWord: laid · FnExactIsLoop: laid · FnExactAreaOfLoop: laid · FnExactOppositeWord: laid · FnExactFactorLoop: laid · FnExactStepsOfFactors: laid.
  DERIVED. THE GIVEN ROWS OF THIS SEAT. 7 by the template 'for every input the law returns true; each argument reads behind the call as it read before'; 0 by the template 'total and deterministic' (their statements: YthgpjndildlgpaaDoorTotals.lean).
  GIVEN WITH THE SEED: the statements are not yours to turn. If you find one false, say at which input.
  Laid BY PROGRAM, IN A SANDBOX (cutbox-rows.mjs): the forced cells as the released guide's own fill.sh prints them over the translation 9df21c4483234961… (all of the seat's roots in one cut). By AI agents, Wed Nov 11 2026. No macro, syntax, notation, axiom, sorry.
-/
import Derived.Test.YthgpjndildlgpaaDoorChecked
import GoSem.PinnedTables
import GoSem.Claim
import GoSem.ClaimJoined
import GoSem.ClaimMapViews
import Derived.JoinedTies
import Derived.KernelRfl
namespace Go.Proofs.YthgpjndildlgpaaDoor
/- THE CELL 'sum', in the pinned program and in every row, IS THE sha256 OF THE DUMP (.gsa) THAT YthgpjndildlgpaaDoorProg.lean LOADS. Nothing in Lean hashes anything: it is a label: what it is worth is what the hold of that sum in a sandbox is worth. -/
noncomputable def Tryd.pinned : Pinned := { name := "ythgpjndildlgpaadoor", sum := "9df21c4483234961505f7285071e36daf920e173a03a714c100628695ebc9818", checked := Tryd.checked }
namespace Rows
def none {H : Type} : Left H := { results := [], args := [] }

/- WHAT THE LISTED PACKAGE-LEVEL VARIABLES READ AS WHEN THE CALL BEGINS. Each datum BY PROGRAM (the guide's laid-datum.mjs) off the statement by which the dump's own 'gosem.cut.vars' lays the variable. In a bare row this is a premise. The card (YthgpjndildlgpaaDoorCards.lean) ties it to the program's text. -/
def laid_unicode_utf8_acceptRanges {H : Type} : DataW H := .agg [.agg [.lit (.int .u8 128), .lit (.int .u8 191)], .agg [.lit (.int .u8 160), .lit (.int .u8 191)], .agg [.lit (.int .u8 128), .lit (.int .u8 159)], .agg [.lit (.int .u8 144), .lit (.int .u8 191)], .agg [.lit (.int .u8 128), .lit (.int .u8 143)], .agg [.lit (.int .u8 0), .lit (.int .u8 0)], .agg [.lit (.int .u8 0), .lit (.int .u8 0)], .agg [.lit (.int .u8 0), .lit (.int .u8 0)], .agg [.lit (.int .u8 0), .lit (.int .u8 0)], .agg [.lit (.int .u8 0), .lit (.int .u8 0)], .agg [.lit (.int .u8 0), .lit (.int .u8 0)], .agg [.lit (.int .u8 0), .lit (.int .u8 0)], .agg [.lit (.int .u8 0), .lit (.int .u8 0)], .agg [.lit (.int .u8 0), .lit (.int .u8 0)], .agg [.lit (.int .u8 0), .lit (.int .u8 0)], .agg [.lit (.int .u8 0), .lit (.int .u8 0)]]
/-- One of Go's own tables, pinned by name: the form's constant. -/
def laid_unicode_utf8_first : DataW Unit := Go.Pinned.utf8First

/-- 'laws.FnExactIsWord': WHATEVER THE INPUT: true; the input reads as it did. -/
def fnExactIsWordSpec : ChangeSpec := { name := "fnExactIsWord", fn := fun _ => fun
  | [d] => { results := [.lit (.bool true)], args := [d] }
  | _ => none }
def fnExactIsWordRow : OpenClaim := { program := "ythgpjndildlgpaadoor", sum := "9df21c4483234961505f7285071e36daf920e173a03a714c100628695ebc9818", func := "loop.example/g00943/laws.FnExactIsWord", spec := "fnExactIsWord", inPlace := ["internal/bytealg.IndexByteString", "internal/bytealg.IndexString"], named := ["unicode/utf8.first", "unicode/utf8.acceptRanges", "internal/bytealg.MaxLen"], plainKeys := false, apart := false, laid := [("unicode/utf8.acceptRanges", laid_unicode_utf8_acceptRanges), ("unicode/utf8.first", laid_unicode_utf8_first)] }
def FnExactIsWordSaid : Prop := fnExactIsWordRow.holds Tryd.pinned (OpenSpec.ofChange fnExactIsWordSpec)

/-- ITS FALSE NEIGHBOUR: 'it returns false'. Refute it at one input. -/
def fnExactIsWordWrong : ChangeSpec := { name := "fnExactIsWord", fn := fun _ => fun
  | [d] => { results := [.lit (.bool false)], args := [d] }
  | _ => none }
def FnExactIsWordWrongFalsely : Prop := fnExactIsWordRow.holds Tryd.pinned (OpenSpec.ofChange fnExactIsWordWrong)

/-- 'laws.FnExactEndOfWord': WHATEVER THE INPUT: true; the input reads as it did. -/
def fnExactEndOfWordSpec : ChangeSpec := { name := "fnExactEndOfWord", fn := fun _ => fun
  | [d] => { results := [.lit (.bool true)], args := [d] }
  | _ => none }
def fnExactEndOfWordRow : OpenClaim := { program := "ythgpjndildlgpaadoor", sum := "9df21c4483234961505f7285071e36daf920e173a03a714c100628695ebc9818", func := "loop.example/g00943/laws.FnExactEndOfWord", spec := "fnExactEndOfWord", inPlace := ["internal/bytealg.IndexByteString", "internal/bytealg.IndexString"], named := ["unicode/utf8.first", "unicode/utf8.acceptRanges", "internal/bytealg.MaxLen"], plainKeys := false, apart := false, laid := [("unicode/utf8.acceptRanges", laid_unicode_utf8_acceptRanges), ("unicode/utf8.first", laid_unicode_utf8_first)] }
def FnExactEndOfWordSaid : Prop := fnExactEndOfWordRow.holds Tryd.pinned (OpenSpec.ofChange fnExactEndOfWordSpec)

/-- ITS FALSE NEIGHBOUR: 'it returns false'. Refute it at one input. -/
def fnExactEndOfWordWrong : ChangeSpec := { name := "fnExactEndOfWord", fn := fun _ => fun
  | [d] => { results := [.lit (.bool false)], args := [d] }
  | _ => none }
def FnExactEndOfWordWrongFalsely : Prop := fnExactEndOfWordRow.holds Tryd.pinned (OpenSpec.ofChange fnExactEndOfWordWrong)

/-- 'laws.FnExactIsLoop': WHATEVER THE INPUT: true; the input reads as it did. -/
def fnExactIsLoopSpec : ChangeSpec := { name := "fnExactIsLoop", fn := fun _ => fun
  | [d] => { results := [.lit (.bool true)], args := [d] }
  | _ => none }
def fnExactIsLoopRow : OpenClaim := { program := "ythgpjndildlgpaadoor", sum := "9df21c4483234961505f7285071e36daf920e173a03a714c100628695ebc9818", func := "loop.example/g00943/laws.FnExactIsLoop", spec := "fnExactIsLoop", inPlace := ["internal/bytealg.IndexByteString", "internal/bytealg.IndexString"], named := ["unicode/utf8.first", "unicode/utf8.acceptRanges", "internal/bytealg.MaxLen"], plainKeys := false, apart := false, laid := [("unicode/utf8.acceptRanges", laid_unicode_utf8_acceptRanges), ("unicode/utf8.first", laid_unicode_utf8_first)] }
def FnExactIsLoopSaid : Prop := fnExactIsLoopRow.holds Tryd.pinned (OpenSpec.ofChange fnExactIsLoopSpec)

/-- ITS FALSE NEIGHBOUR: 'it returns false'. Refute it at one input. -/
def fnExactIsLoopWrong : ChangeSpec := { name := "fnExactIsLoop", fn := fun _ => fun
  | [d] => { results := [.lit (.bool false)], args := [d] }
  | _ => none }
def FnExactIsLoopWrongFalsely : Prop := fnExactIsLoopRow.holds Tryd.pinned (OpenSpec.ofChange fnExactIsLoopWrong)

/-- 'laws.FnExactAreaOfLoop': WHATEVER THE INPUT: true; the input reads as it did. -/
def fnExactAreaOfLoopSpec : ChangeSpec := { name := "fnExactAreaOfLoop", fn := fun _ => fun
  | [d] => { results := [.lit (.bool true)], args := [d] }
  | _ => none }
def fnExactAreaOfLoopRow : OpenClaim := { program := "ythgpjndildlgpaadoor", sum := "9df21c4483234961505f7285071e36daf920e173a03a714c100628695ebc9818", func := "loop.example/g00943/laws.FnExactAreaOfLoop", spec := "fnExactAreaOfLoop", inPlace := ["internal/bytealg.IndexByteString", "internal/bytealg.IndexString"], named := ["unicode/utf8.first", "unicode/utf8.acceptRanges", "internal/bytealg.MaxLen"], plainKeys := false, apart := false, laid := [("unicode/utf8.acceptRanges", laid_unicode_utf8_acceptRanges), ("unicode/utf8.first", laid_unicode_utf8_first)] }
def FnExactAreaOfLoopSaid : Prop := fnExactAreaOfLoopRow.holds Tryd.pinned (OpenSpec.ofChange fnExactAreaOfLoopSpec)

/-- ITS FALSE NEIGHBOUR: 'it returns false'. Refute it at one input. -/
def fnExactAreaOfLoopWrong : ChangeSpec := { name := "fnExactAreaOfLoop", fn := fun _ => fun
  | [d] => { results := [.lit (.bool false)], args := [d] }
  | _ => none }
def FnExactAreaOfLoopWrongFalsely : Prop := fnExactAreaOfLoopRow.holds Tryd.pinned (OpenSpec.ofChange fnExactAreaOfLoopWrong)

/-- 'laws.FnExactOppositeWord': WHATEVER THE INPUT: true; the input reads as it did. -/
def fnExactOppositeWordSpec : ChangeSpec := { name := "fnExactOppositeWord", fn := fun _ => fun
  | [d] => { results := [.lit (.bool true)], args := [d] }
  | _ => none }
def fnExactOppositeWordRow : OpenClaim := { program := "ythgpjndildlgpaadoor", sum := "9df21c4483234961505f7285071e36daf920e173a03a714c100628695ebc9818", func := "loop.example/g00943/laws.FnExactOppositeWord", spec := "fnExactOppositeWord", inPlace := ["internal/bytealg.IndexByteString", "internal/bytealg.IndexString"], unfollowed := true, recurses := true, named := ["unicode/utf8.first", "unicode/utf8.acceptRanges", "internal/bytealg.MaxLen"], plainKeys := false, apart := false, laid := [("unicode/utf8.acceptRanges", laid_unicode_utf8_acceptRanges), ("unicode/utf8.first", laid_unicode_utf8_first)] }
def FnExactOppositeWordSaid : Prop := fnExactOppositeWordRow.holds Tryd.pinned (OpenSpec.ofChange fnExactOppositeWordSpec)

/-- ITS FALSE NEIGHBOUR: 'it returns false'. Refute it at one input. -/
def fnExactOppositeWordWrong : ChangeSpec := { name := "fnExactOppositeWord", fn := fun _ => fun
  | [d] => { results := [.lit (.bool false)], args := [d] }
  | _ => none }
def FnExactOppositeWordWrongFalsely : Prop := fnExactOppositeWordRow.holds Tryd.pinned (OpenSpec.ofChange fnExactOppositeWordWrong)

/-- 'laws.FnExactFactorLoop': WHATEVER THE INPUT: true; the input reads as it did. -/
def fnExactFactorLoopSpec : ChangeSpec := { name := "fnExactFactorLoop", fn := fun _ => fun
  | [d] => { results := [.lit (.bool true)], args := [d] }
  | _ => none }
def fnExactFactorLoopRow : OpenClaim := { program := "ythgpjndildlgpaadoor", sum := "9df21c4483234961505f7285071e36daf920e173a03a714c100628695ebc9818", func := "loop.example/g00943/laws.FnExactFactorLoop", spec := "fnExactFactorLoop", inPlace := ["internal/bytealg.IndexByteString", "internal/bytealg.IndexString"], unfollowed := true, recurses := true, named := ["unicode/utf8.first", "unicode/utf8.acceptRanges", "internal/bytealg.MaxLen"], plainKeys := false, apart := false, laid := [("unicode/utf8.acceptRanges", laid_unicode_utf8_acceptRanges), ("unicode/utf8.first", laid_unicode_utf8_first)] }
def FnExactFactorLoopSaid : Prop := fnExactFactorLoopRow.holds Tryd.pinned (OpenSpec.ofChange fnExactFactorLoopSpec)

/-- ITS FALSE NEIGHBOUR: 'it returns false'. Refute it at one input. -/
def fnExactFactorLoopWrong : ChangeSpec := { name := "fnExactFactorLoop", fn := fun _ => fun
  | [d] => { results := [.lit (.bool false)], args := [d] }
  | _ => none }
def FnExactFactorLoopWrongFalsely : Prop := fnExactFactorLoopRow.holds Tryd.pinned (OpenSpec.ofChange fnExactFactorLoopWrong)

/-- 'laws.FnExactStepsOfFactors': WHATEVER THE INPUT: true; the input reads as it did. -/
def fnExactStepsOfFactorsSpec : ChangeSpec := { name := "fnExactStepsOfFactors", fn := fun _ => fun
  | [d1, d2] => { results := [.lit (.bool true)], args := [d1, d2] }
  | _ => none }
def fnExactStepsOfFactorsRow : OpenClaim := { program := "ythgpjndildlgpaadoor", sum := "9df21c4483234961505f7285071e36daf920e173a03a714c100628695ebc9818", func := "loop.example/g00943/laws.FnExactStepsOfFactors", spec := "fnExactStepsOfFactors", inPlace := ["internal/bytealg.IndexByteString", "internal/bytealg.IndexString"], unfollowed := true, recurses := true, named := ["unicode/utf8.first", "unicode/utf8.acceptRanges", "internal/bytealg.MaxLen"], plainKeys := false, apart := false, laid := [("unicode/utf8.acceptRanges", laid_unicode_utf8_acceptRanges), ("unicode/utf8.first", laid_unicode_utf8_first)] }
def FnExactStepsOfFactorsSaid : Prop := fnExactStepsOfFactorsRow.holds Tryd.pinned (OpenSpec.ofChange fnExactStepsOfFactorsSpec)

/-- ITS FALSE NEIGHBOUR: 'it returns false'. Refute it at one input. -/
def fnExactStepsOfFactorsWrong : ChangeSpec := { name := "fnExactStepsOfFactors", fn := fun _ => fun
  | [d1, d2] => { results := [.lit (.bool false)], args := [d1, d2] }
  | _ => none }
def FnExactStepsOfFactorsWrongFalsely : Prop := fnExactStepsOfFactorsRow.holds Tryd.pinned (OpenSpec.ofChange fnExactStepsOfFactorsWrong)

/- THE SECOND FORM. 'bulk': how many values and letters a reading holds, each counted each time it is reached (what is shared counts as often as it is met; a slice's spare places count too). A statement '..UptoSaid' is the law's where the arguments, and the package variables that the reading takes, are together of bulk at most 1048576: NARROWER than '..Said'. Prove '..Said' where nothing that the law and all that it calls make is longer than what came in: it says more and counts as full. Else prove '..UptoSaid'. A law counts once. -/
mutual
def uptoBulk {H : Type} : DataW H → Nat
  | .lit (.string bytes) => bytes.length + 1
  | .lit _ => 1
  | .nil => 1
  | .ptr d => uptoBulk d + 1
  | .slice elems spare => uptoBulkAll elems + uptoBulkAll spare + 1
  | .agg parts => uptoBulkAll parts + 1
  | .iface _ d => uptoBulk d + 1
  | .map entries => uptoBulkEntries entries + 1
  | .held _ => 1
def uptoBulkAll {H : Type} : List (DataW H) → Nat
  | [] => 0
  | d :: r => uptoBulk d + uptoBulkAll r
def uptoBulkEntries {H : Type} : List (Lit × DataW H) → Nat
  | [] => 0
  | x :: r => uptoBulkEntry x + uptoBulkEntries r
def uptoBulkEntry {H : Type} : Lit × DataW H → Nat
  | (.string bytes, d) => bytes.length + uptoBulk d + 1
  | (_, d) => uptoBulk d + 1
 end
def uptoSmall : (H : Type) → List (DataW H) → Bool := fun _ ds => decide (uptoBulkAll ds ≤ 1048576)
def OpenSpec.upto (s : _root_.Go.ChangeSpec) : _root_.Go.OpenSpec := { _root_.Go.OpenSpec.ofChange s with cond := some uptoSmall }

/-- 'laws.FnExactIsWord', WHERE WHAT IT READS IS OF BULK AT MOST 1048576: true; the input reads as it did. -/
def fnExactIsWordUptoRow : OpenClaim := { program := "ythgpjndildlgpaadoor", sum := "9df21c4483234961505f7285071e36daf920e173a03a714c100628695ebc9818", func := "loop.example/g00943/laws.FnExactIsWord", spec := "fnExactIsWord", inPlace := ["internal/bytealg.IndexByteString", "internal/bytealg.IndexString"], named := ["unicode/utf8.first", "unicode/utf8.acceptRanges", "internal/bytealg.MaxLen"], plainKeys := false, apart := false, laid := [("unicode/utf8.acceptRanges", laid_unicode_utf8_acceptRanges), ("unicode/utf8.first", laid_unicode_utf8_first)], narrowed := true }
def FnExactIsWordUptoSaid : Prop := fnExactIsWordUptoRow.holds Tryd.pinned (OpenSpec.upto fnExactIsWordSpec)

/-- 'laws.FnExactEndOfWord', WHERE WHAT IT READS IS OF BULK AT MOST 1048576: true; the input reads as it did. -/
def fnExactEndOfWordUptoRow : OpenClaim := { program := "ythgpjndildlgpaadoor", sum := "9df21c4483234961505f7285071e36daf920e173a03a714c100628695ebc9818", func := "loop.example/g00943/laws.FnExactEndOfWord", spec := "fnExactEndOfWord", inPlace := ["internal/bytealg.IndexByteString", "internal/bytealg.IndexString"], named := ["unicode/utf8.first", "unicode/utf8.acceptRanges", "internal/bytealg.MaxLen"], plainKeys := false, apart := false, laid := [("unicode/utf8.acceptRanges", laid_unicode_utf8_acceptRanges), ("unicode/utf8.first", laid_unicode_utf8_first)], narrowed := true }
def FnExactEndOfWordUptoSaid : Prop := fnExactEndOfWordUptoRow.holds Tryd.pinned (OpenSpec.upto fnExactEndOfWordSpec)

/-- 'laws.FnExactIsLoop', WHERE WHAT IT READS IS OF BULK AT MOST 1048576: true; the input reads as it did. -/
def fnExactIsLoopUptoRow : OpenClaim := { program := "ythgpjndildlgpaadoor", sum := "9df21c4483234961505f7285071e36daf920e173a03a714c100628695ebc9818", func := "loop.example/g00943/laws.FnExactIsLoop", spec := "fnExactIsLoop", inPlace := ["internal/bytealg.IndexByteString", "internal/bytealg.IndexString"], named := ["unicode/utf8.first", "unicode/utf8.acceptRanges", "internal/bytealg.MaxLen"], plainKeys := false, apart := false, laid := [("unicode/utf8.acceptRanges", laid_unicode_utf8_acceptRanges), ("unicode/utf8.first", laid_unicode_utf8_first)], narrowed := true }
def FnExactIsLoopUptoSaid : Prop := fnExactIsLoopUptoRow.holds Tryd.pinned (OpenSpec.upto fnExactIsLoopSpec)

/-- 'laws.FnExactAreaOfLoop', WHERE WHAT IT READS IS OF BULK AT MOST 1048576: true; the input reads as it did. -/
def fnExactAreaOfLoopUptoRow : OpenClaim := { program := "ythgpjndildlgpaadoor", sum := "9df21c4483234961505f7285071e36daf920e173a03a714c100628695ebc9818", func := "loop.example/g00943/laws.FnExactAreaOfLoop", spec := "fnExactAreaOfLoop", inPlace := ["internal/bytealg.IndexByteString", "internal/bytealg.IndexString"], named := ["unicode/utf8.first", "unicode/utf8.acceptRanges", "internal/bytealg.MaxLen"], plainKeys := false, apart := false, laid := [("unicode/utf8.acceptRanges", laid_unicode_utf8_acceptRanges), ("unicode/utf8.first", laid_unicode_utf8_first)], narrowed := true }
def FnExactAreaOfLoopUptoSaid : Prop := fnExactAreaOfLoopUptoRow.holds Tryd.pinned (OpenSpec.upto fnExactAreaOfLoopSpec)

/-- 'laws.FnExactOppositeWord', WHERE WHAT IT READS IS OF BULK AT MOST 1048576: true; the input reads as it did. -/
def fnExactOppositeWordUptoRow : OpenClaim := { program := "ythgpjndildlgpaadoor", sum := "9df21c4483234961505f7285071e36daf920e173a03a714c100628695ebc9818", func := "loop.example/g00943/laws.FnExactOppositeWord", spec := "fnExactOppositeWord", inPlace := ["internal/bytealg.IndexByteString", "internal/bytealg.IndexString"], unfollowed := true, recurses := true, named := ["unicode/utf8.first", "unicode/utf8.acceptRanges", "internal/bytealg.MaxLen"], plainKeys := false, apart := false, laid := [("unicode/utf8.acceptRanges", laid_unicode_utf8_acceptRanges), ("unicode/utf8.first", laid_unicode_utf8_first)], narrowed := true }
def FnExactOppositeWordUptoSaid : Prop := fnExactOppositeWordUptoRow.holds Tryd.pinned (OpenSpec.upto fnExactOppositeWordSpec)

/-- 'laws.FnExactFactorLoop', WHERE WHAT IT READS IS OF BULK AT MOST 1048576: true; the input reads as it did. -/
def fnExactFactorLoopUptoRow : OpenClaim := { program := "ythgpjndildlgpaadoor", sum := "9df21c4483234961505f7285071e36daf920e173a03a714c100628695ebc9818", func := "loop.example/g00943/laws.FnExactFactorLoop", spec := "fnExactFactorLoop", inPlace := ["internal/bytealg.IndexByteString", "internal/bytealg.IndexString"], unfollowed := true, recurses := true, named := ["unicode/utf8.first", "unicode/utf8.acceptRanges", "internal/bytealg.MaxLen"], plainKeys := false, apart := false, laid := [("unicode/utf8.acceptRanges", laid_unicode_utf8_acceptRanges), ("unicode/utf8.first", laid_unicode_utf8_first)], narrowed := true }
def FnExactFactorLoopUptoSaid : Prop := fnExactFactorLoopUptoRow.holds Tryd.pinned (OpenSpec.upto fnExactFactorLoopSpec)

/-- 'laws.FnExactStepsOfFactors', WHERE WHAT IT READS IS OF BULK AT MOST 1048576: true; the input reads as it did. -/
def fnExactStepsOfFactorsUptoRow : OpenClaim := { program := "ythgpjndildlgpaadoor", sum := "9df21c4483234961505f7285071e36daf920e173a03a714c100628695ebc9818", func := "loop.example/g00943/laws.FnExactStepsOfFactors", spec := "fnExactStepsOfFactors", inPlace := ["internal/bytealg.IndexByteString", "internal/bytealg.IndexString"], unfollowed := true, recurses := true, named := ["unicode/utf8.first", "unicode/utf8.acceptRanges", "internal/bytealg.MaxLen"], plainKeys := false, apart := false, laid := [("unicode/utf8.acceptRanges", laid_unicode_utf8_acceptRanges), ("unicode/utf8.first", laid_unicode_utf8_first)], narrowed := true }
def FnExactStepsOfFactorsUptoSaid : Prop := fnExactStepsOfFactorsUptoRow.holds Tryd.pinned (OpenSpec.upto fnExactStepsOfFactorsSpec)

end Rows
end Go.Proofs.YthgpjndildlgpaaDoor
