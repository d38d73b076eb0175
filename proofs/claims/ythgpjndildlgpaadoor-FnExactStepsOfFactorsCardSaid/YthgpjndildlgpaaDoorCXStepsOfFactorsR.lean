/- The law FnExactStepsOfFactors holds: out of its contract. No condition of its own. -/
import Derived.Test.YthgpjndildlgpaaDoorRows
import Derived.Test.YthgpjndildlgpaaDoorChecked
import Derived.Test.YthgpjndildlgpaaDoorTie
import Derived.Test.YthgpjndildlgpaaDoorCards
import Derived.ProofKit
import Derived.Lay
import Derived.LaidOnce
import Derived.SevenTiedAt
import Derived.Test.YthgpjndildlgpaaDoorCXStepsOfFactors3
namespace Go.Proofs.YthgpjndildlgpaaDoor.fnExactStepsOfFactors
open Go.ChangeShapes Go.WideShapes Go.ChangeAt Go.RowKit Go.Proofs.YthgpjndildlgpaaDoorEv
open Go.ChangeMaps (open_string shut_string)
theorem own : ownKnob Tryd.prog.godebug = none := by kernel_rfl
theorem laidOut : laidOutB Tryd.prog = true := by kernel_rfl
set_option maxRecDepth 100000 in
set_option maxHeartbeats 1000000 in
theorem lifted (os : Os) (started : os.Started) (H : Type) (enc : TypeId × Value → H) :
    ReturnsInHanded {} Tryd.checked os 9 .any (fun w args => (Rows.fnExactStepsOfFactorsSpec.pre enc Tryd.prog Tryd.f9 Rows.fnExactStepsOfFactorsRow.domain false w args ∧ laidMetH Tryd.prog Rows.fnExactStepsOfFactorsRow.laid w) ∧ sizedMet enc Tryd.prog Tryd.f9 (OpenSpec.ofChange Rows.fnExactStepsOfFactorsSpec) false w args) (Rows.fnExactStepsOfFactorsSpec.post enc Tryd.prog Tryd.f9 false true false false) := by
  refine returnsInHanded_of_change_and (C := Tryd.checked) (X := fun w _ => laidMetH Tryd.prog Rows.fnExactStepsOfFactorsRow.laid w) (fun _ _ _ hh h => h.of_heap hh) own started (by kernel_rfl) Tryd.func9
    (ChangeSpec.witness_shaped (enc := enc) (C := Tryd.checked) (os := os) (X := fun w _ => laidMetH Tryd.prog Rows.fnExactStepsOfFactorsRow.laid w) false (World.laidAll Tryd.prog os Rows.fnExactStepsOfFactorsRow.laid) #[.string ByteArray.empty, .slice none 0 0] 8 (World.laidAll_os _ _ _)
      (World.shaped_of_ZipB (by kernel_rfl) (by kernel_rfl)) (by kernel_rfl) (by kernel_rfl) (by kernel_rfl)
      (by rw [MakeChecks.laidMetH_plain _ _ _ (by kernel_rfl)]; exact laidMet_laidAll _ (by kernel_rfl) (by kernel_rfl))) ?_
  intro W base args ds gs before hval0 hW _ _ _ _
  have hval : ∀ (j : Nat) t v, Tryd.f9.params[j]? = some t → args[j]? = some v → Value.okWide Tryd.prog W .any base t v := hval0
  have hW' := hW
  obtain ⟨p, q, hA0, hV, rfl, hfz, hnd⟩ := hW
  have hA : DataW.TrodAll enc Tryd.prog W 0 (fun _ => true) true Tryd.f9.params.toList args.toList ds p := hA0
  rw [Tryd.params9] at hA hval
  obtain ⟨v0, vs0, d0, ds0, p0, q0, hargs, rfl, rfl, h0, r0⟩ := trodAll_cons hA
  obtain ⟨v1, vs1, d1, ds1, p1, q1, rfl, rfl, rfl, h1, r1⟩ := trodAll_cons r0
  obtain ⟨rfl, rfl, rfl⟩ := trodAll_nil r1
  obtain rfl : args = #[v0, v1] := by cases args; simp_all
  obtain ⟨rfl, rfl⟩ := trodVars_none hV
  obtain ⟨a0, rfl, rfl, rfl, wf0⟩ := open_string Tryd.underlying9 (hval 0 9 v0 rfl rfl) h0
  have k1 := h1
  have lt1 : ∀ x ∈ p1, x.block < W.heap.size := by obtain ⟨m, hm⟩ := k1; exact DataW.trod_lt m _ _ _ hm
  obtain ⟨ad1, len1, cap1, rfl⟩ := okWide_slice Tryd.underlying32 (hval 1 32 v1 rfl rfl)
  obtain ⟨fuel1, hf1⟩ := h1
  obtain ⟨a1, K1, wf1⟩ := (opc_slice Tryd.underlying32 (by kernel_rfl) (opc_int Tryd.underlying2)) _ _ _ _ _ _ _ _ hf1
  refine (law_calls (law_FnExactStepsOfFactors a0 a1 wf0 wf1) W (fun p hp => nomatch (show p ∈ ([] : List (Nat × List Value)) from hp)) [.string a0, .slice ad1 len1 cap1] ⟨_, _, rfl, rfl, ⟨_, _, rfl, ar_one K1, rfl⟩⟩).mono fun e W' ⟨he, bel⟩ => ?_
  subst he
  exact ⟨_, rfl, _, _, _, [], _, [], hW', trodAll_mk1 (shut_bool Tryd.underlying4 _), (trodAll_cons_mk (shut_string Tryd.underlying9 wf0) (trodAll_cons_mk (Below.trod laidOut (by kernel_rfl) (of_decide_eq_true (by kernel_rfl)) k1 bel lt1) trodAll_mk0)), rfl, bel.frame _, fun h => by cases h⟩
theorem cl1 : (Rows.fnExactStepsOfFactorsRow.inPlace == Tryd.checked.prog.inPlace 9) = true := by kernel_rfl
theorem cl2 : (Rows.fnExactStepsOfFactorsRow.unfollowed == Tryd.checked.prog.unfollowed 9) = true := by kernel_rfl
theorem cl3 : (Rows.fnExactStepsOfFactorsRow.recurses == Tryd.checked.prog.recurses 9) = true := by kernel_rfl
theorem cl4 : (Rows.fnExactStepsOfFactorsRow.named == Tryd.checked.prog.varsNamed 9) = true := by kernel_rfl
theorem closed : joinedFacts Tryd.checked.prog 9 Tryd.f9 Rows.fnExactStepsOfFactorsSpec Rows.fnExactStepsOfFactorsRow = true := by
  unfold joinedFacts
  rw [cl1, cl2, cl3, cl4]
  kernel_rfl
theorem named : Tryd.checked.prog.funcNamed Rows.fnExactStepsOfFactorsRow.func = some 9 := by kernel_rfl
theorem over : Rows.fnExactStepsOfFactorsRow.holds Tryd.pinned (OpenSpec.ofChange Rows.fnExactStepsOfFactorsSpec) :=
  OpenClaim.holds_of_wide 9 Tryd.f9 rfl rfl rfl rfl rfl rfl rfl ⟨rfl, rfl, rfl, rfl, rfl⟩ rfl rfl rfl rfl rfl named Tryd.func9 closed
    (of_decide_eq_true (by kernel_rfl)) (by unfold Func.isWrapper; first | (rw [if_pos (by decide +kernel)]; kernel_rfl) | (rw [if_neg (by decide +kernel)]; exact ⟨rfl, rfl⟩))
    (fun os started H enc _ => lifted os started H enc)
theorem proved : Rows.FnExactStepsOfFactorsSaid := over
theorem tied : Rows.FnExactStepsOfFactorsCardSaid :=
  Claim7.holds_tied_plain_at .later [] [.data, .pinned] true (true, "70d6d9caba9267491c6a96eb9da3e38c70f2930214f52e7b9c4478f98b744c33") false proved (fun _ h => by cases h) (by kernel_rfl) (fun _ h => by cases h) fnExactStepsOfFactors_row_tie rfl ⟨rfl, rfl⟩ (by kernel_rfl) rfl
    (fun f fn hf hfn => by
      obtain rfl : f = 9 := Option.some.inj ((show Tryd.prog.funcNamed "loop.example/g00943/laws.FnExactStepsOfFactors" = some 9 by kernel_rfl).symm.trans hf) |>.symm
      obtain rfl : fn = Tryd.f9 := (Option.some.inj (Tryd.func9.symm.trans hfn)).symm
      exact ⟨by kernel_rfl, fun j t ht => by
        rw [Tryd.params9] at ht
        have hm : t ∈ [9, 32] := by simpa using Array.mem_of_getElem? ht
        have hall : ([9, 32].all fun u => !Tryd.prog.wantsStandIn u) = true := by kernel_rfl
        exact (show Tryd.prog.wantsStandIn t = false by simpa using List.all_eq_true.1 hall t hm)⟩)
    (by kernel_rfl)
end Go.Proofs.YthgpjndildlgpaaDoor.fnExactStepsOfFactors
namespace Go.Proofs.YthgpjndildlgpaaDoor
/-- The row, under a short name, for the claim. -/
theorem fnExactStepsOfFactors_holds : Rows.FnExactStepsOfFactorsCardSaid := fnExactStepsOfFactors.tied
end Go.Proofs.YthgpjndildlgpaaDoor
