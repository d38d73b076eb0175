/- The law FnExactOverprint holds: out of its contract. No condition of its own. -/
import Derived.Test.YtjjockhekaccnaaRows
import Derived.Test.YtjjockhekaccnaaChecked
import Derived.Test.YtjjockhekaccnaaCXOverprint2
namespace Go.Proofs.Ytjjockhekaccnaa.fnExactOverprint
open Go.ChangeShapes Go.WideShapes Go.ChangeAt Go.RowKit Go.Proofs.YtjjockhekaccnaaEv
open Go.ChangeMaps (open_string shut_string)
theorem own : ownKnob Try.prog.godebug = none := by kernel_rfl
theorem laidOut : laidOutB Try.prog = true := by kernel_rfl
set_option maxRecDepth 100000 in
set_option maxHeartbeats 1000000 in
theorem lifted (os : Os) (started : os.Started) (H : Type) (enc : TypeId × Value → H) :
    ReturnsInHanded {} Try.checked os 14 .any (Rows.fnExactOverprintSpec.pre6 enc Try.prog Try.f14 Rows.fnExactOverprintRow.domain false) (Rows.fnExactOverprintSpec.post enc Try.prog Try.f14 false true false false) := by
  refine returnsInHanded_of_change_sized (C := Try.checked) own started (by kernel_rfl) Try.func14
    (ChangeSpec.witness6 (enc := enc) (C := Try.checked) false ⟨#[], #[.agg #[.int .i64 0, .int .i64 0, .int .i64 0, .int .i64 0, .slice none 0 0], .agg #[.int .i64 0, .int .i64 0, .int .i64 0, .int .i64 0, .slice none 0 0], .int .i64 0], []⟩ 8 (by kernel_rfl) (by kernel_rfl) (by kernel_rfl) (by kernel_rfl)) ?_
  intro W base args ds gs before hval0 hW hcnd hsz0 _
  have hval : ∀ (j : Nat) t v, Try.f14.params[j]? = some t → args[j]? = some v → Value.okWide Try.prog W .any base t v := hval0
  have hW' := hW
  obtain ⟨p, q, hA0, hV, rfl, hfz, hnd⟩ := hW
  have hA : DataW.TrodAll enc Try.prog W 0 (fun _ => true) true Try.f14.params.toList args.toList ds p := hA0
  rw [Try.params14] at hA hval
  obtain ⟨v0, vs0, d0, ds0, p0, q0, hargs, rfl, rfl, h0, r0⟩ := trodAll_cons hA
  obtain ⟨v1, vs1, d1, ds1, p1, q1, rfl, rfl, rfl, h1, r1⟩ := trodAll_cons r0
  obtain ⟨v2, vs2, d2, ds2, p2, q2, rfl, rfl, rfl, h2, r2⟩ := trodAll_cons r1
  obtain ⟨rfl, rfl, rfl⟩ := trodAll_nil r2
  obtain rfl : args = #[v0, v1, v2] := by cases args; simp_all
  obtain ⟨rfl, rfl⟩ := trodVars_none hV
  have k0 := h0
  have lt0 : ∀ x ∈ p0, x.block < W.heap.size := by obtain ⟨m, hm⟩ := k0; exact DataW.trod_lt m _ _ _ hm
  obtain ⟨cs0, rfl⟩ := agg_of Try.underlying68 (hval 0 68 v0 rfl rfl)
  obtain ⟨fuel0, hf0⟩ := h0
  obtain ⟨x0, K0, wf0⟩ := (opc_struct (n := 5) Try.underlying68 (by kernel_rfl) (opf_cons (n := 1) (m := 4) (by rfl) (by kernel_rfl) (opc_int Try.underlying2) (opf_cons (n := 3) (m := 1) (by rfl) (by kernel_rfl) (opc_struct (n := 3) Try.underlying66 (by kernel_rfl) (opf_cons (n := 1) (m := 2) (by rfl) (by kernel_rfl) (opc_int Try.underlying2) (opf_cons (n := 1) (m := 1) (by rfl) (by kernel_rfl) (opc_int Try.underlying2) (opf_one (n := 1) (by rfl) (by kernel_rfl) (opc_int Try.underlying2))))) (opf_one (n := 1) (by rfl) (by kernel_rfl) (opc_slice Try.underlying22 (by kernel_rfl) (opc_int Try.underlying2)))))) _ _ _ _ _ _ _ _ hf0
  obtain ⟨a0_0, ⟨a0_1_0, a0_1_1, a0_1_2⟩, a0_2⟩ := x0
  have k1 := h1
  have lt1 : ∀ x ∈ p1, x.block < W.heap.size := by obtain ⟨m, hm⟩ := k1; exact DataW.trod_lt m _ _ _ hm
  obtain ⟨cs1, rfl⟩ := agg_of Try.underlying68 (hval 1 68 v1 rfl rfl)
  obtain ⟨fuel1, hf1⟩ := h1
  obtain ⟨x1, K1, wf1⟩ := (opc_struct (n := 5) Try.underlying68 (by kernel_rfl) (opf_cons (n := 1) (m := 4) (by rfl) (by kernel_rfl) (opc_int Try.underlying2) (opf_cons (n := 3) (m := 1) (by rfl) (by kernel_rfl) (opc_struct (n := 3) Try.underlying66 (by kernel_rfl) (opf_cons (n := 1) (m := 2) (by rfl) (by kernel_rfl) (opc_int Try.underlying2) (opf_cons (n := 1) (m := 1) (by rfl) (by kernel_rfl) (opc_int Try.underlying2) (opf_one (n := 1) (by rfl) (by kernel_rfl) (opc_int Try.underlying2))))) (opf_one (n := 1) (by rfl) (by kernel_rfl) (opc_slice Try.underlying22 (by kernel_rfl) (opc_int Try.underlying2)))))) _ _ _ _ _ _ _ _ hf1
  obtain ⟨a1_0, ⟨a1_1_0, a1_1_1, a1_1_2⟩, a1_2⟩ := x1
  obtain ⟨a2, rfl, rfl, rfl, wf2⟩ := open_int Try.underlying2 (hval 2 2 v2 rfl rfl) h2
  refine (law_calls (law_FnExactOverprint a0_0 a0_1_0 a0_1_1 a0_1_2 a0_2 a1_0 a1_1_0 a1_1_1 a1_1_2 a1_2 a2 wf0 wf1 wf2) W [.agg cs0, .agg cs1, .int .i64 a2] ⟨_, _, rfl, ar_agg K0, ⟨_, _, rfl, ar_agg K1, ⟨_, _, rfl, rfl, rfl⟩⟩⟩).mono fun e W' ⟨he, bel⟩ => ?_
  subst he
  exact ⟨_, rfl, _, _, _, [], _, [], hW', trodAll_mk1 (shut_bool Try.underlying4 _), (trodAll_cons_mk (Below.trod laidOut (by kernel_rfl) (of_decide_eq_true (by kernel_rfl)) k0 bel lt0) (trodAll_cons_mk (Below.trod laidOut (by kernel_rfl) (of_decide_eq_true (by kernel_rfl)) k1 bel lt1) (trodAll_cons_mk (shut_int Try.underlying2 wf2) trodAll_mk0))), rfl, bel.frame _, fun h => by cases h⟩
theorem over : Rows.fnExactOverprintRow.holds Try.pinned (OpenSpec.ofChange Rows.fnExactOverprintSpec) :=
  OpenClaim.holds_of_wide 14 Try.f14 rfl rfl rfl rfl rfl rfl rfl ⟨rfl, rfl, rfl, rfl, rfl⟩ rfl rfl rfl rfl rfl (by kernel_rfl) Try.func14 (by kernel_rfl)
    (of_decide_eq_true (by kernel_rfl)) (by unfold Func.isWrapper; first | (rw [if_pos (by decide +kernel)]; kernel_rfl) | (rw [if_neg (by decide +kernel)]; exact ⟨rfl, rfl⟩))
    (fun os started H enc _ => lifted os started H enc)
theorem proved : Rows.FnExactOverprintSaid := over
end Go.Proofs.Ytjjockhekaccnaa.fnExactOverprint
namespace Go.Proofs.Ytjjockhekaccnaa
/-- The row, under a short name, for the claim. -/
theorem fnExactOverprint_holds : Rows.FnExactOverprintSaid := fnExactOverprint.proved
end Go.Proofs.Ytjjockhekaccnaa
