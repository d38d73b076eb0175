/- The law FnExactStabiliserOf holds: out of its contract. No condition of its own. -/
import Derived.Test.YtihkjljafjhniaaRows
import Derived.Test.YtihkjljafjhniaaChecked
import Derived.Test.YtihkjljafjhniaaCXStabiliserOf4
namespace Go.Proofs.Ytihkjljafjhniaa.fnExactStabiliserOf
open Go.ChangeShapes Go.WideShapes Go.ChangeAt Go.RowKit Go.Proofs.YtihkjljafjhniaaEv
open Go.ChangeMaps (open_string shut_string)
theorem own : ownKnob Try.prog.godebug = none := by kernel_rfl
theorem laidOut : laidOutB Try.prog = true := by kernel_rfl
set_option maxRecDepth 100000 in
set_option maxHeartbeats 1000000 in
theorem lifted (os : Os) (started : os.Started) (H : Type) (enc : TypeId × Value → H) :
    ReturnsInHanded {} Try.checked os 10 .any (Rows.fnExactStabiliserOfSpec.pre6 enc Try.prog Try.f10 Rows.fnExactStabiliserOfRow.domain false) (Rows.fnExactStabiliserOfSpec.post enc Try.prog Try.f10 false true false false) := by
  refine returnsInHanded_of_change_sized (C := Try.checked) own started (by kernel_rfl) Try.func10
    (ChangeSpec.witness6 (enc := enc) (C := Try.checked) false ⟨#[], #[.int .i64 0, .agg #[.int .i64 0, .int .i64 0, .int .i64 0], .slice none 0 0, .agg #[.int .i64 0, .int .i64 0]], []⟩ 8 (by kernel_rfl) (by kernel_rfl) (by kernel_rfl) (by kernel_rfl)) ?_
  intro W base args ds gs before hval0 hW hcnd hsz0 _
  have hval : ∀ (j : Nat) t v, Try.f10.params[j]? = some t → args[j]? = some v → Value.okWide Try.prog W .any base t v := hval0
  have hW' := hW
  obtain ⟨p, q, hA0, hV, rfl, hfz, hnd⟩ := hW
  have hA : DataW.TrodAll enc Try.prog W 0 (fun _ => true) true Try.f10.params.toList args.toList ds p := hA0
  rw [Try.params10] at hA hval
  obtain ⟨v0, vs0, d0, ds0, p0, q0, hargs, rfl, rfl, h0, r0⟩ := trodAll_cons hA
  obtain ⟨v1, vs1, d1, ds1, p1, q1, rfl, rfl, rfl, h1, r1⟩ := trodAll_cons r0
  obtain ⟨v2, vs2, d2, ds2, p2, q2, rfl, rfl, rfl, h2, r2⟩ := trodAll_cons r1
  obtain ⟨v3, vs3, d3, ds3, p3, q3, rfl, rfl, rfl, h3, r3⟩ := trodAll_cons r2
  obtain ⟨rfl, rfl, rfl⟩ := trodAll_nil r3
  obtain rfl : args = #[v0, v1, v2, v3] := by cases args; simp_all
  obtain ⟨rfl, rfl⟩ := trodVars_none hV
  obtain ⟨a0, rfl, rfl, rfl, wf0⟩ := open_int Try.underlying2 (hval 0 2 v0 rfl rfl) h0
  have k1 := h1
  have lt1 : ∀ x ∈ p1, x.block < W.heap.size := by obtain ⟨m, hm⟩ := k1; exact DataW.trod_lt m _ _ _ hm
  obtain ⟨cs1, rfl⟩ := agg_of Try.underlying23 (hval 1 23 v1 rfl rfl)
  obtain ⟨fuel1, hf1⟩ := h1
  obtain ⟨x1, K1, wf1⟩ := (opc_struct (n := 3) Try.underlying23 (by kernel_rfl) (opf_cons (n := 1) (m := 2) (by rfl) (by kernel_rfl) (opc_int Try.underlying2) (opf_cons (n := 1) (m := 1) (by rfl) (by kernel_rfl) (opc_int Try.underlying2) (opf_one (n := 1) (by rfl) (by kernel_rfl) (opc_int Try.underlying2))))) _ _ _ _ _ _ _ _ hf1
  obtain ⟨a1_0, a1_1, a1_2⟩ := x1
  have k2 := h2
  have lt2 : ∀ x ∈ p2, x.block < W.heap.size := by obtain ⟨m, hm⟩ := k2; exact DataW.trod_lt m _ _ _ hm
  obtain ⟨ad2, len2, cap2, rfl⟩ := okWide_slice Try.underlying66 (hval 2 66 v2 rfl rfl)
  obtain ⟨fuel2, hf2⟩ := h2
  obtain ⟨a2, K2, wf2⟩ := (opc_slice Try.underlying66 (by kernel_rfl) (opc_struct (n := 6) Try.underlying58 (by kernel_rfl) (opf_cons (n := 4) (m := 2) (by rfl) (by kernel_rfl) (opc_struct (n := 4) Try.underlying55 (by kernel_rfl) (opf_cons (n := 1) (m := 3) (by rfl) (by kernel_rfl) (opc_int Try.underlying2) (opf_cons (n := 1) (m := 2) (by rfl) (by kernel_rfl) (opc_int Try.underlying2) (opf_cons (n := 1) (m := 1) (by rfl) (by kernel_rfl) (opc_int Try.underlying2) (opf_one (n := 1) (by rfl) (by kernel_rfl) (opc_int Try.underlying2)))))) (opf_one (n := 2) (by rfl) (by kernel_rfl) (opc_struct (n := 2) Try.underlying56 (by kernel_rfl) (opf_cons (n := 1) (m := 1) (by rfl) (by kernel_rfl) (opc_int Try.underlying2) (opf_one (n := 1) (by rfl) (by kernel_rfl) (opc_int Try.underlying2)))))))) _ _ _ _ _ _ _ _ hf2
  have k3 := h3
  have lt3 : ∀ x ∈ p3, x.block < W.heap.size := by obtain ⟨m, hm⟩ := k3; exact DataW.trod_lt m _ _ _ hm
  obtain ⟨cs3, rfl⟩ := agg_of Try.underlying56 (hval 3 56 v3 rfl rfl)
  obtain ⟨fuel3, hf3⟩ := h3
  obtain ⟨x3, K3, wf3⟩ := (opc_struct (n := 2) Try.underlying56 (by kernel_rfl) (opf_cons (n := 1) (m := 1) (by rfl) (by kernel_rfl) (opc_int Try.underlying2) (opf_one (n := 1) (by rfl) (by kernel_rfl) (opc_int Try.underlying2)))) _ _ _ _ _ _ _ _ hf3
  obtain ⟨a3_0, a3_1⟩ := x3
  refine (law_calls (law_FnExactStabiliserOf a0 a1_0 a1_1 a1_2 a2 a3_0 a3_1 wf0 wf1 wf2 wf3) W [.int .i64 a0, .agg cs1, .slice ad2 len2 cap2, .agg cs3] ⟨_, _, rfl, rfl, ⟨_, _, rfl, ar_agg K1, ⟨_, _, rfl, ar_one K2, ⟨_, _, rfl, ar_agg K3, rfl⟩⟩⟩⟩).mono fun e W' ⟨he, bel⟩ => ?_
  subst he
  exact ⟨_, rfl, _, _, _, [], _, [], hW', trodAll_mk1 (shut_bool Try.underlying4 _), (trodAll_cons_mk (shut_int Try.underlying2 wf0) (trodAll_cons_mk (Below.trod laidOut (by kernel_rfl) (of_decide_eq_true (by kernel_rfl)) k1 bel lt1) (trodAll_cons_mk (Below.trod laidOut (by kernel_rfl) (of_decide_eq_true (by kernel_rfl)) k2 bel lt2) (trodAll_cons_mk (Below.trod laidOut (by kernel_rfl) (of_decide_eq_true (by kernel_rfl)) k3 bel lt3) trodAll_mk0)))), rfl, bel.frame _, fun h => by cases h⟩
theorem cl1 : (Rows.fnExactStabiliserOfRow.inPlace == Try.checked.prog.inPlace 10) = true := by kernel_rfl
theorem cl2 : (Rows.fnExactStabiliserOfRow.unfollowed == Try.checked.prog.unfollowed 10) = true := by kernel_rfl
theorem cl3 : (Rows.fnExactStabiliserOfRow.recurses == Try.checked.prog.recurses 10) = true := by kernel_rfl
theorem cl4 : (Rows.fnExactStabiliserOfRow.named == Try.checked.prog.varsNamed 10) = true := by kernel_rfl
theorem closed : joinedFacts Try.checked.prog 10 Try.f10 Rows.fnExactStabiliserOfSpec Rows.fnExactStabiliserOfRow = true := by
  unfold joinedFacts
  rw [cl1, cl2, cl3, cl4]
  kernel_rfl
theorem named : Try.checked.prog.funcNamed Rows.fnExactStabiliserOfRow.func = some 10 := by kernel_rfl
theorem over : Rows.fnExactStabiliserOfRow.holds Try.pinned (OpenSpec.ofChange Rows.fnExactStabiliserOfSpec) :=
  OpenClaim.holds_of_wide 10 Try.f10 rfl rfl rfl rfl rfl rfl rfl ⟨rfl, rfl, rfl, rfl, rfl⟩ rfl rfl rfl rfl rfl named Try.func10 closed
    (of_decide_eq_true (by kernel_rfl)) (by unfold Func.isWrapper; first | (rw [if_pos (by decide +kernel)]; kernel_rfl) | (rw [if_neg (by decide +kernel)]; exact ⟨rfl, rfl⟩))
    (fun os started H enc _ => lifted os started H enc)
theorem proved : Rows.FnExactStabiliserOfSaid := over
end Go.Proofs.Ytihkjljafjhniaa.fnExactStabiliserOf
namespace Go.Proofs.Ytihkjljafjhniaa
/-- The row, under a short name, for the claim. -/
theorem fnExactStabiliserOf_holds : Rows.FnExactStabiliserOfSaid := fnExactStabiliserOf.proved
end Go.Proofs.Ytihkjljafjhniaa
