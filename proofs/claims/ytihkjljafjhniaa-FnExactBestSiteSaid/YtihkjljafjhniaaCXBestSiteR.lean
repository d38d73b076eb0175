/- The law FnExactBestSite holds: out of its contract. No condition of its own. -/
import Derived.Test.YtihkjljafjhniaaRows
import Derived.Test.YtihkjljafjhniaaChecked
import Derived.Test.YtihkjljafjhniaaCXBestSite5
namespace Go.Proofs.Ytihkjljafjhniaa.fnExactBestSite
open Go.ChangeShapes Go.WideShapes Go.ChangeAt Go.RowKit Go.Proofs.YtihkjljafjhniaaEv
open Go.ChangeMaps (open_string shut_string)
theorem own : ownKnob Try.prog.godebug = none := by kernel_rfl
theorem laidOut : laidOutB Try.prog = true := by kernel_rfl
set_option maxRecDepth 100000 in
set_option maxHeartbeats 1000000 in
theorem lifted (os : Os) (started : os.Started) (H : Type) (enc : TypeId × Value → H) :
    ReturnsInHanded {} Try.checked os 6 .any (Rows.fnExactBestSiteSpec.pre6 enc Try.prog Try.f6 Rows.fnExactBestSiteRow.domain false) (Rows.fnExactBestSiteSpec.post enc Try.prog Try.f6 false true false false) := by
  refine returnsInHanded_of_change_sized (C := Try.checked) own started (by kernel_rfl) Try.func6
    (ChangeSpec.witness6 (enc := enc) (C := Try.checked) false ⟨#[], #[.agg #[.int .i64 0, .int .i64 0, .int .i64 0, .int .i64 0, .slice none 0 0]], []⟩ 8 (by kernel_rfl) (by kernel_rfl) (by kernel_rfl) (by kernel_rfl)) ?_
  intro W base args ds gs before hval0 hW hcnd hsz0 _
  have hval : ∀ (j : Nat) t v, Try.f6.params[j]? = some t → args[j]? = some v → Value.okWide Try.prog W .any base t v := hval0
  have hW' := hW
  obtain ⟨p, q, hA0, hV, rfl, hfz, hnd⟩ := hW
  have hA : DataW.TrodAll enc Try.prog W 0 (fun _ => true) true Try.f6.params.toList args.toList ds p := hA0
  rw [Try.params6] at hA hval
  obtain ⟨v0, vs0, d0, ds0, p0, q0, hargs, rfl, rfl, h0, r0⟩ := trodAll_cons hA
  obtain ⟨rfl, rfl, rfl⟩ := trodAll_nil r0
  obtain rfl : args = #[v0] := by cases args; simp_all
  obtain ⟨rfl, rfl⟩ := trodVars_none hV
  have k0 := h0
  have lt0 : ∀ x ∈ p0, x.block < W.heap.size := by obtain ⟨m, hm⟩ := k0; exact DataW.trod_lt m _ _ _ hm
  obtain ⟨cs0, rfl⟩ := agg_of Try.underlying26 (hval 0 26 v0 rfl rfl)
  obtain ⟨fuel0, hf0⟩ := h0
  obtain ⟨x0, K0, wf0⟩ := (opc_struct (n := 5) Try.underlying26 (by kernel_rfl) (opf_cons (n := 1) (m := 4) (by rfl) (by kernel_rfl) (opc_int Try.underlying2) (opf_cons (n := 3) (m := 1) (by rfl) (by kernel_rfl) (opc_struct (n := 3) Try.underlying23 (by kernel_rfl) (opf_cons (n := 1) (m := 2) (by rfl) (by kernel_rfl) (opc_int Try.underlying2) (opf_cons (n := 1) (m := 1) (by rfl) (by kernel_rfl) (opc_int Try.underlying2) (opf_one (n := 1) (by rfl) (by kernel_rfl) (opc_int Try.underlying2))))) (opf_one (n := 1) (by rfl) (by kernel_rfl) (opc_slice Try.underlying24 (by kernel_rfl) (opc_int Try.underlying2)))))) _ _ _ _ _ _ _ _ hf0
  obtain ⟨a0_0, ⟨a0_1_0, a0_1_1, a0_1_2⟩, a0_2⟩ := x0
  refine (law_calls (law_FnExactBestSite a0_0 a0_1_0 a0_1_1 a0_1_2 a0_2 wf0) W [.agg cs0] ⟨_, _, rfl, ar_agg K0, rfl⟩).mono fun e W' ⟨he, bel⟩ => ?_
  subst he
  exact ⟨_, rfl, _, _, _, [], _, [], hW', trodAll_mk1 (shut_bool Try.underlying4 _), (trodAll_cons_mk (Below.trod laidOut (by kernel_rfl) (of_decide_eq_true (by kernel_rfl)) k0 bel lt0) trodAll_mk0), rfl, bel.frame _, fun h => by cases h⟩
theorem cl1 : (Rows.fnExactBestSiteRow.inPlace == Try.checked.prog.inPlace 6) = true := by kernel_rfl
theorem cl2 : (Rows.fnExactBestSiteRow.unfollowed == Try.checked.prog.unfollowed 6) = true := by kernel_rfl
theorem cl3 : (Rows.fnExactBestSiteRow.recurses == Try.checked.prog.recurses 6) = true := by kernel_rfl
theorem cl4 : (Rows.fnExactBestSiteRow.named == Try.checked.prog.varsNamed 6) = true := by kernel_rfl
theorem closed : joinedFacts Try.checked.prog 6 Try.f6 Rows.fnExactBestSiteSpec Rows.fnExactBestSiteRow = true := by
  unfold joinedFacts
  rw [cl1, cl2, cl3, cl4]
  kernel_rfl
theorem named : Try.checked.prog.funcNamed Rows.fnExactBestSiteRow.func = some 6 := by kernel_rfl
theorem over : Rows.fnExactBestSiteRow.holds Try.pinned (OpenSpec.ofChange Rows.fnExactBestSiteSpec) :=
  OpenClaim.holds_of_wide 6 Try.f6 rfl rfl rfl rfl rfl rfl rfl ⟨rfl, rfl, rfl, rfl, rfl⟩ rfl rfl rfl rfl rfl named Try.func6 closed
    (of_decide_eq_true (by kernel_rfl)) (by unfold Func.isWrapper; first | (rw [if_pos (by decide +kernel)]; kernel_rfl) | (rw [if_neg (by decide +kernel)]; exact ⟨rfl, rfl⟩))
    (fun os started H enc _ => lifted os started H enc)
theorem proved : Rows.FnExactBestSiteSaid := over
end Go.Proofs.Ytihkjljafjhniaa.fnExactBestSite
namespace Go.Proofs.Ytihkjljafjhniaa
/-- The row, under a short name, for the claim. -/
theorem fnExactBestSite_holds : Rows.FnExactBestSiteSaid := fnExactBestSite.proved
end Go.Proofs.Ytihkjljafjhniaa
