/- The law FnPrints holds: out of its contract. No condition of its own. -/
import Derived.Test.YtgkhakhkebjbpaaGreatRows
import Derived.Test.YtgkhakhkebjbpaaGreatChecked
import Derived.Test.YtgkhakhkebjbpaaGreatCFnPrints4
namespace Go.Proofs.YtgkhakhkebjbpaaGreat.fnPrints
open Go.ChangeShapes Go.WideShapes Go.ChangeAt Go.RowKit Go.Proofs.YtgkhakhkebjbpaaGreatEv
open Go.ChangeMaps (open_string shut_string)
theorem own : ownKnob Tryz.prog.godebug = none := by kernel_rfl
theorem laidOut : laidOutB Tryz.prog = true := by kernel_rfl
set_option maxRecDepth 100000 in
set_option maxHeartbeats 1000000 in
theorem lifted (os : Os) (started : os.Started) (H : Type) (enc : TypeId × Value → H) :
    ReturnsInHanded {} Tryz.checked os 3 .any (Rows.fnPrintsSpec.pre6 enc Tryz.prog Tryz.f3 Rows.fnPrintsRow.domain false) (Rows.fnPrintsSpec.post enc Tryz.prog Tryz.f3 false true false false) := by
  refine returnsInHanded_of_change_sized (C := Tryz.checked) own started (by kernel_rfl) Tryz.func3
    (ChangeSpec.witness6 (enc := enc) (C := Tryz.checked) false ⟨#[], #[.slice none 0 0], []⟩ 8 (by kernel_rfl) (by kernel_rfl) (by kernel_rfl) (by kernel_rfl)) ?_
  intro W base args ds gs before hval0 hW hcnd hsz0 _
  have hval : ∀ (j : Nat) t v, Tryz.f3.params[j]? = some t → args[j]? = some v → Value.okWide Tryz.prog W .any base t v := hval0
  have hW' := hW
  obtain ⟨p, q, hA0, hV, rfl, hfz, hnd⟩ := hW
  have hA : DataW.TrodAll enc Tryz.prog W 0 (fun _ => true) true Tryz.f3.params.toList args.toList ds p := hA0
  rw [Tryz.params3] at hA hval
  obtain ⟨v0, vs0, d0, ds0, p0, q0, hargs, rfl, rfl, h0, r0⟩ := trodAll_cons hA
  obtain ⟨rfl, rfl, rfl⟩ := trodAll_nil r0
  obtain rfl : args = #[v0] := by cases args; simp_all
  obtain ⟨rfl, rfl⟩ := trodVars_none hV
  have k0 := h0
  have lt0 : ∀ x ∈ p0, x.block < W.heap.size := by obtain ⟨m, hm⟩ := k0; exact DataW.trod_lt m _ _ _ hm
  obtain ⟨ad0, len0, cap0, rfl⟩ := okWide_slice Tryz.underlying22 (hval 0 22 v0 rfl rfl)
  obtain ⟨fuel0, hf0⟩ := h0
  obtain ⟨a0, K0, wf0⟩ := (opc_slice Tryz.underlying22 (by kernel_rfl) (opc_int Tryz.underlying5)) _ _ _ _ _ _ _ _ hf0
  refine (law_calls (law_FnPrints a0 wf0) W (fun p hp => nomatch (show p ∈ ([] : List (Nat × (Array Value → Prop))) from hp)) [.slice ad0 len0 cap0] ⟨_, _, rfl, ar_one K0, rfl⟩).mono fun e W' ⟨he, bel⟩ => ?_
  subst he
  exact ⟨_, rfl, _, _, _, [], _, [], hW', trodAll_mk1 (shut_bool Tryz.underlying4 _), (trodAll_cons_mk (Below.trod laidOut (by kernel_rfl) (of_decide_eq_true (by kernel_rfl)) k0 bel lt0) trodAll_mk0), rfl, bel.frame _, fun h => by cases h⟩
theorem cl1 : (Rows.fnPrintsRow.inPlace == Tryz.checked.prog.inPlace 3) = true := by kernel_rfl
theorem cl2 : (Rows.fnPrintsRow.unfollowed == Tryz.checked.prog.unfollowed 3) = true := by kernel_rfl
theorem cl3 : (Rows.fnPrintsRow.recurses == Tryz.checked.prog.recurses 3) = true := by kernel_rfl
theorem cl4 : (Rows.fnPrintsRow.named == Tryz.checked.prog.varsNamed 3) = true := by kernel_rfl
theorem closed : joinedFacts Tryz.checked.prog 3 Tryz.f3 Rows.fnPrintsSpec Rows.fnPrintsRow = true := by
  unfold joinedFacts
  rw [cl1, cl2, cl3, cl4]
  kernel_rfl
theorem named : Tryz.checked.prog.funcNamed Rows.fnPrintsRow.func = some 3 := by kernel_rfl
theorem over : Rows.fnPrintsRow.holds Tryz.pinned (OpenSpec.ofChange Rows.fnPrintsSpec) :=
  OpenClaim.holds_of_wide 3 Tryz.f3 rfl rfl rfl rfl rfl rfl rfl ⟨rfl, rfl, rfl, rfl, rfl⟩ rfl rfl rfl rfl rfl named Tryz.func3 closed
    (of_decide_eq_true (by kernel_rfl)) (by unfold Func.isWrapper; first | (rw [if_pos (by decide +kernel)]; kernel_rfl) | (rw [if_neg (by decide +kernel)]; exact ⟨rfl, rfl⟩))
    (fun os started H enc _ => lifted os started H enc)
theorem proved : Rows.FnPrintsSaid := over
end Go.Proofs.YtgkhakhkebjbpaaGreat.fnPrints
namespace Go.Proofs.YtgkhakhkebjbpaaGreat
/-- The row, under a short name, for the claim. -/
theorem fnPrints_holds : Rows.FnPrintsSaid := fnPrints.proved
end Go.Proofs.YtgkhakhkebjbpaaGreat
