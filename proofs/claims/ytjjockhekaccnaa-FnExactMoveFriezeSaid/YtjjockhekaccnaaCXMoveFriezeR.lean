/- The law FnExactMoveFrieze holds: out of its contract. No condition of its own. -/
import Derived.Test.YtjjockhekaccnaaRows
import Derived.Test.YtjjockhekaccnaaChecked
import Derived.Test.YtjjockhekaccnaaCXMoveFrieze2
namespace Go.Proofs.Ytjjockhekaccnaa.fnExactMoveFrieze
open Go.ChangeShapes Go.WideShapes Go.ChangeAt Go.RowKit Go.Proofs.YtjjockhekaccnaaEv
open Go.ChangeMaps (open_string shut_string)
theorem own : ownKnob Try.prog.godebug = none := by kernel_rfl
theorem laidOut : laidOutB Try.prog = true := by kernel_rfl
set_option maxRecDepth 100000 in
set_option maxHeartbeats 1000000 in
theorem lifted (os : Os) (started : os.Started) (H : Type) (enc : TypeId × Value → H) :
    ReturnsInHanded {} Try.checked os 4 .any (Rows.fnExactMoveFriezeSpec.pre6 enc Try.prog Try.f4 Rows.fnExactMoveFriezeRow.domain false) (Rows.fnExactMoveFriezeSpec.post enc Try.prog Try.f4 false true false false) := by
  refine returnsInHanded_of_change_sized (C := Try.checked) own started (by kernel_rfl) Try.func4
    (ChangeSpec.witness6 (enc := enc) (C := Try.checked) false ⟨#[], #[.agg #[.int .i64 0, .int .i64 0, .slice none 0 0], .agg #[.bool false, .bool false, .int .i64 0]], []⟩ 8 (by kernel_rfl) (by kernel_rfl) (by kernel_rfl) (by kernel_rfl)) ?_
  intro W base args ds gs before hval0 hW hcnd hsz0 _
  have hval : ∀ (j : Nat) t v, Try.f4.params[j]? = some t → args[j]? = some v → Value.okWide Try.prog W .any base t v := hval0
  have hW' := hW
  obtain ⟨p, q, hA0, hV, rfl, hfz, hnd⟩ := hW
  have hA : DataW.TrodAll enc Try.prog W 0 (fun _ => true) true Try.f4.params.toList args.toList ds p := hA0
  rw [Try.params4] at hA hval
  obtain ⟨v0, vs0, d0, ds0, p0, q0, hargs, rfl, rfl, h0, r0⟩ := trodAll_cons hA
  obtain ⟨v1, vs1, d1, ds1, p1, q1, rfl, rfl, rfl, h1, r1⟩ := trodAll_cons r0
  obtain ⟨rfl, rfl, rfl⟩ := trodAll_nil r1
  obtain rfl : args = #[v0, v1] := by cases args; simp_all
  obtain ⟨rfl, rfl⟩ := trodVars_none hV
  have k0 := h0
  have lt0 : ∀ x ∈ p0, x.block < W.heap.size := by obtain ⟨m, hm⟩ := k0; exact DataW.trod_lt m _ _ _ hm
  obtain ⟨cs0, rfl⟩ := agg_of Try.underlying24 (hval 0 24 v0 rfl rfl)
  obtain ⟨fuel0, hf0⟩ := h0
  obtain ⟨x0, K0, wf0⟩ := (opc_struct (n := 3) Try.underlying24 (by kernel_rfl) (opf_cons (n := 1) (m := 2) (by rfl) (by kernel_rfl) (opc_int Try.underlying2) (opf_cons (n := 1) (m := 1) (by rfl) (by kernel_rfl) (opc_int Try.underlying2) (opf_one (n := 1) (by rfl) (by kernel_rfl) (opc_slice Try.underlying22 (by kernel_rfl) (opc_int Try.underlying2)))))) _ _ _ _ _ _ _ _ hf0
  obtain ⟨a0_0, a0_1, a0_2⟩ := x0
  have k1 := h1
  have lt1 : ∀ x ∈ p1, x.block < W.heap.size := by obtain ⟨m, hm⟩ := k1; exact DataW.trod_lt m _ _ _ hm
  obtain ⟨cs1, rfl⟩ := agg_of Try.underlying33 (hval 1 33 v1 rfl rfl)
  obtain ⟨fuel1, hf1⟩ := h1
  obtain ⟨x1, K1, wf1⟩ := (opc_struct (n := 3) Try.underlying33 (by kernel_rfl) (opf_cons (n := 1) (m := 2) (by rfl) (by kernel_rfl) (opc_bool Try.underlying4) (opf_cons (n := 1) (m := 1) (by rfl) (by kernel_rfl) (opc_bool Try.underlying4) (opf_one (n := 1) (by rfl) (by kernel_rfl) (opc_int Try.underlying2))))) _ _ _ _ _ _ _ _ hf1
  obtain ⟨a1_0, a1_1, a1_2⟩ := x1
  refine (law_calls (law_FnExactMoveFrieze a0_0 a0_1 a0_2 a1_0 a1_1 a1_2 wf0 wf1) W [.agg cs0, .agg cs1] ⟨_, _, rfl, ar_agg K0, ⟨_, _, rfl, ar_agg K1, rfl⟩⟩).mono fun e W' ⟨he, bel⟩ => ?_
  subst he
  exact ⟨_, rfl, _, _, _, [], _, [], hW', trodAll_mk1 (shut_bool Try.underlying4 _), (trodAll_cons_mk (Below.trod laidOut (by kernel_rfl) (of_decide_eq_true (by kernel_rfl)) k0 bel lt0) (trodAll_cons_mk (Below.trod laidOut (by kernel_rfl) (of_decide_eq_true (by kernel_rfl)) k1 bel lt1) trodAll_mk0)), rfl, bel.frame _, fun h => by cases h⟩
theorem over : Rows.fnExactMoveFriezeRow.holds Try.pinned (OpenSpec.ofChange Rows.fnExactMoveFriezeSpec) :=
  OpenClaim.holds_of_wide 4 Try.f4 rfl rfl rfl rfl rfl rfl rfl ⟨rfl, rfl, rfl, rfl, rfl⟩ rfl rfl rfl rfl rfl (by kernel_rfl) Try.func4 (by kernel_rfl)
    (of_decide_eq_true (by kernel_rfl)) (by unfold Func.isWrapper; first | (rw [if_pos (by decide +kernel)]; kernel_rfl) | (rw [if_neg (by decide +kernel)]; exact ⟨rfl, rfl⟩))
    (fun os started H enc _ => lifted os started H enc)
theorem proved : Rows.FnExactMoveFriezeSaid := over
end Go.Proofs.Ytjjockhekaccnaa.fnExactMoveFrieze
namespace Go.Proofs.Ytjjockhekaccnaa
/-- The row, under a short name, for the claim. -/
theorem fnExactMoveFrieze_holds : Rows.FnExactMoveFriezeSaid := fnExactMoveFrieze.proved
end Go.Proofs.Ytjjockhekaccnaa
