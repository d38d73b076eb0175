/- The law FnMasks holds: out of its contract. No condition of its own. -/
import Derived.Test.YtgkhakhkebjbpaaRows
import Derived.Test.YtgkhakhkebjbpaaChecked
import Derived.Test.YtgkhakhkebjbpaaCFnMasks4
namespace Go.Proofs.Ytgkhakhkebjbpaa.fnMasks
open Go.ChangeShapes Go.WideShapes Go.ChangeAt Go.RowKit Go.Proofs.YtgkhakhkebjbpaaEv
open Go.ChangeMaps (open_string shut_string)
theorem own : ownKnob Try.prog.godebug = none := by kernel_rfl
theorem laidOut : laidOutB Try.prog = true := by kernel_rfl
set_option maxRecDepth 100000 in
set_option maxHeartbeats 1000000 in
theorem lifted (os : Os) (started : os.Started) (H : Type) (enc : TypeId × Value → H) :
    ReturnsInHanded {} Try.checked os 3 .any (Rows.fnMasksSpec.pre6 enc Try.prog Try.f3 Rows.fnMasksRow.domain false) (Rows.fnMasksSpec.post enc Try.prog Try.f3 false true false false) := by
  refine returnsInHanded_of_change_sized (C := Try.checked) own started (by kernel_rfl) Try.func3
    (ChangeSpec.witness6 (enc := enc) (C := Try.checked) false ⟨#[], #[.slice none 0 0], []⟩ 8 (by kernel_rfl) (by kernel_rfl) (by kernel_rfl) (by kernel_rfl)) ?_
  intro W base args ds gs before hval0 hW hcnd hsz0 _
  have hval : ∀ (j : Nat) t v, Try.f3.params[j]? = some t → args[j]? = some v → Value.okWide Try.prog W .any base t v := hval0
  have hW' := hW
  obtain ⟨p, q, hA0, hV, rfl, hfz, hnd⟩ := hW
  have hA : DataW.TrodAll enc Try.prog W 0 (fun _ => true) true Try.f3.params.toList args.toList ds p := hA0
  rw [Try.params3] at hA hval
  obtain ⟨v0, vs0, d0, ds0, p0, q0, hargs, rfl, rfl, h0, r0⟩ := trodAll_cons hA
  obtain ⟨rfl, rfl, rfl⟩ := trodAll_nil r0
  obtain rfl : args = #[v0] := by cases args; simp_all
  obtain ⟨rfl, rfl⟩ := trodVars_none hV
  have k0 := h0
  have lt0 : ∀ x ∈ p0, x.block < W.heap.size := by obtain ⟨m, hm⟩ := k0; exact DataW.trod_lt m _ _ _ hm
  obtain ⟨ad0, len0, cap0, rfl⟩ := okWide_slice Try.underlying22 (hval 0 22 v0 rfl rfl)
  obtain ⟨fuel0, hf0⟩ := h0
  obtain ⟨a0, K0, wf0⟩ := (opc_slice Try.underlying22 (by kernel_rfl) (opc_int Try.underlying5)) _ _ _ _ _ _ _ _ hf0
  refine (law_calls (law_FnMasks a0 wf0) W (fun p hp => nomatch (show p ∈ ([] : List (Nat × (Array Value → Prop))) from hp)) [.slice ad0 len0 cap0] ⟨_, _, rfl, ar_one K0, rfl⟩).mono fun e W' ⟨he, bel⟩ => ?_
  subst he
  exact ⟨_, rfl, _, _, _, [], _, [], hW', trodAll_mk1 (shut_bool Try.underlying4 _), (trodAll_cons_mk (Below.trod laidOut (by kernel_rfl) (of_decide_eq_true (by kernel_rfl)) k0 bel lt0) trodAll_mk0), rfl, bel.frame _, fun h => by cases h⟩
theorem cl1 : (Rows.fnMasksRow.inPlace == Try.checked.prog.inPlace 3) = true := by kernel_rfl
theorem cl2 : (Rows.fnMasksRow.unfollowed == Try.checked.prog.unfollowed 3) = true := by kernel_rfl
theorem cl3 : (Rows.fnMasksRow.recurses == Try.checked.prog.recurses 3) = true := by kernel_rfl
theorem cl4 : (Rows.fnMasksRow.named == Try.checked.prog.varsNamed 3) = true := by kernel_rfl
theorem closed : joinedFacts Try.checked.prog 3 Try.f3 Rows.fnMasksSpec Rows.fnMasksRow = true := by
  unfold joinedFacts
  rw [cl1, cl2, cl3, cl4]
  kernel_rfl
theorem named : Try.checked.prog.funcNamed Rows.fnMasksRow.func = some 3 := by kernel_rfl
theorem over : Rows.fnMasksRow.holds Try.pinned (OpenSpec.ofChange Rows.fnMasksSpec) :=
  OpenClaim.holds_of_wide 3 Try.f3 rfl rfl rfl rfl rfl rfl rfl ⟨rfl, rfl, rfl, rfl, rfl⟩ rfl rfl rfl rfl rfl named Try.func3 closed
    (of_decide_eq_true (by kernel_rfl)) (by unfold Func.isWrapper; first | (rw [if_pos (by decide +kernel)]; kernel_rfl) | (rw [if_neg (by decide +kernel)]; exact ⟨rfl, rfl⟩))
    (fun os started H enc _ => lifted os started H enc)
theorem proved : Rows.FnMasksSaid := over
end Go.Proofs.Ytgkhakhkebjbpaa.fnMasks
namespace Go.Proofs.Ytgkhakhkebjbpaa
/-- The row, under a short name, for the claim. -/
theorem fnMasks_holds : Rows.FnMasksSaid := fnMasks.proved
end Go.Proofs.Ytgkhakhkebjbpaa
