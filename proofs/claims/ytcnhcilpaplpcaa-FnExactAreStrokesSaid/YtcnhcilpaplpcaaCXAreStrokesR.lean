/- The law FnExactAreStrokes holds: out of its contract. No condition of its own. -/
import Derived.Test.YtcnhcilpaplpcaaRows
import Derived.Test.YtcnhcilpaplpcaaChecked
import Derived.Test.YtcnhcilpaplpcaaCXAreStrokes3
namespace Go.Proofs.Ytcnhcilpaplpcaa.fnExactAreStrokes
open Go.ChangeShapes Go.WideShapes Go.ChangeAt Go.RowKit Go.Proofs.YtcnhcilpaplpcaaEv
open Go.ChangeMaps (open_string shut_string)
theorem own : ownKnob Try.prog.godebug = none := by kernel_rfl
theorem laidOut : laidOutB Try.prog = true := by kernel_rfl
set_option maxRecDepth 100000 in
set_option maxHeartbeats 1000000 in
theorem lifted (os : Os) (started : os.Started) (H : Type) (enc : TypeId × Value → H) :
    ReturnsInHanded {} Try.checked os 3 .any (Rows.fnExactAreStrokesSpec.pre6 enc Try.prog Try.f3 Rows.fnExactAreStrokesRow.domain false) (Rows.fnExactAreStrokesSpec.post enc Try.prog Try.f3 false true false false) := by
  refine returnsInHanded_of_change_sized (C := Try.checked) own started (by kernel_rfl) Try.func3
    (ChangeSpec.witness6 (enc := enc) (C := Try.checked) false ⟨#[], #[.string ByteArray.empty, .int .i64 0, .slice none 0 0], []⟩ 8 (by kernel_rfl) (by kernel_rfl) (by kernel_rfl) (by kernel_rfl)) ?_
  intro W base args ds gs before hval0 hW hcnd hsz0 _
  have hval : ∀ (j : Nat) t v, Try.f3.params[j]? = some t → args[j]? = some v → Value.okWide Try.prog W .any base t v := hval0
  have hW' := hW
  obtain ⟨p, q, hA0, hV, rfl, hfz, hnd⟩ := hW
  have hA : DataW.TrodAll enc Try.prog W 0 (fun _ => true) true Try.f3.params.toList args.toList ds p := hA0
  rw [Try.params3] at hA hval
  obtain ⟨v0, vs0, d0, ds0, p0, q0, hargs, rfl, rfl, h0, r0⟩ := trodAll_cons hA
  obtain ⟨v1, vs1, d1, ds1, p1, q1, rfl, rfl, rfl, h1, r1⟩ := trodAll_cons r0
  obtain ⟨v2, vs2, d2, ds2, p2, q2, rfl, rfl, rfl, h2, r2⟩ := trodAll_cons r1
  obtain ⟨rfl, rfl, rfl⟩ := trodAll_nil r2
  obtain rfl : args = #[v0, v1, v2] := by cases args; simp_all
  obtain ⟨rfl, rfl⟩ := trodVars_none hV
  obtain ⟨a0, rfl, rfl, rfl, wf0⟩ := open_string Try.underlying9 (hval 0 9 v0 rfl rfl) h0
  obtain ⟨a1, rfl, rfl, rfl, wf1⟩ := open_int Try.underlying2 (hval 1 2 v1 rfl rfl) h1
  have k2 := h2
  have lt2 : ∀ x ∈ p2, x.block < W.heap.size := by obtain ⟨m, hm⟩ := k2; exact DataW.trod_lt m _ _ _ hm
  obtain ⟨ad2, len2, cap2, rfl⟩ := okWide_slice Try.underlying22 (hval 2 22 v2 rfl rfl)
  obtain ⟨fuel2, hf2⟩ := h2
  obtain ⟨a2, K2, wf2⟩ := (opc_slice Try.underlying22 (by kernel_rfl) (opc_struct (n := 3) Try.underlying42 (by kernel_rfl) (opf_cons (n := 2) (m := 1) (by rfl) (by kernel_rfl) (opc_struct (n := 2) Try.underlying40 (by kernel_rfl) (opf_cons (n := 1) (m := 1) (by rfl) (by kernel_rfl) (opc_int Try.underlying2) (opf_one (n := 1) (by rfl) (by kernel_rfl) (opc_int Try.underlying2)))) (opf_one (n := 1) (by rfl) (by kernel_rfl) (opc_int Try.underlying2))))) _ _ _ _ _ _ _ _ hf2
  refine (law_calls (law_FnExactAreStrokes a0 a1 a2 wf0 wf1 wf2) W (fun p hp => nomatch (show p ∈ ([] : List (Nat × List Value)) from hp)) [.string a0, .int .i64 a1, .slice ad2 len2 cap2] ⟨_, _, rfl, rfl, ⟨_, _, rfl, rfl, ⟨_, _, rfl, ar_one K2, rfl⟩⟩⟩).mono fun e W' ⟨he, bel⟩ => ?_
  subst he
  exact ⟨_, rfl, _, _, _, [], _, [], hW', trodAll_mk1 (shut_bool Try.underlying4 _), (trodAll_cons_mk (shut_string Try.underlying9 wf0) (trodAll_cons_mk (shut_int Try.underlying2 wf1) (trodAll_cons_mk (Below.trod laidOut (by kernel_rfl) (of_decide_eq_true (by kernel_rfl)) k2 bel lt2) trodAll_mk0))), rfl, bel.frame _, fun h => by cases h⟩
theorem cl1 : (Rows.fnExactAreStrokesRow.inPlace == Try.checked.prog.inPlace 3) = true := by kernel_rfl
theorem cl2 : (Rows.fnExactAreStrokesRow.unfollowed == Try.checked.prog.unfollowed 3) = true := by kernel_rfl
theorem cl3 : (Rows.fnExactAreStrokesRow.recurses == Try.checked.prog.recurses 3) = true := by kernel_rfl
theorem cl4 : (Rows.fnExactAreStrokesRow.named == Try.checked.prog.varsNamed 3) = true := by kernel_rfl
theorem closed : joinedFacts Try.checked.prog 3 Try.f3 Rows.fnExactAreStrokesSpec Rows.fnExactAreStrokesRow = true := by
  unfold joinedFacts
  rw [cl1, cl2, cl3, cl4]
  kernel_rfl
theorem named : Try.checked.prog.funcNamed Rows.fnExactAreStrokesRow.func = some 3 := by kernel_rfl
theorem over : Rows.fnExactAreStrokesRow.holds Try.pinned (OpenSpec.ofChange Rows.fnExactAreStrokesSpec) :=
  OpenClaim.holds_of_wide 3 Try.f3 rfl rfl rfl rfl rfl rfl rfl ⟨rfl, rfl, rfl, rfl, rfl⟩ rfl rfl rfl rfl rfl named Try.func3 closed
    (of_decide_eq_true (by kernel_rfl)) (by unfold Func.isWrapper; first | (rw [if_pos (by decide +kernel)]; kernel_rfl) | (rw [if_neg (by decide +kernel)]; exact ⟨rfl, rfl⟩))
    (fun os started H enc _ => lifted os started H enc)
theorem proved : Rows.FnExactAreStrokesSaid := over
end Go.Proofs.Ytcnhcilpaplpcaa.fnExactAreStrokes
namespace Go.Proofs.Ytcnhcilpaplpcaa
/-- The row, under a short name, for the claim. -/
theorem fnExactAreStrokes_holds : Rows.FnExactAreStrokesSaid := fnExactAreStrokes.proved
end Go.Proofs.Ytcnhcilpaplpcaa
