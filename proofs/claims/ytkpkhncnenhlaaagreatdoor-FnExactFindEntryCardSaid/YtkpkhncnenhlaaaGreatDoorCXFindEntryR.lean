/- The law FnExactFindEntry holds: out of its contract. No condition of its own. -/
import Derived.Test.YtkpkhncnenhlaaaGreatDoorRows
import Derived.Test.YtkpkhncnenhlaaaGreatDoorChecked
import Derived.Test.YtkpkhncnenhlaaaGreatDoorTie
import Derived.Test.YtkpkhncnenhlaaaGreatDoorCards
import Derived.ProofKit
import Derived.Lay
import Derived.LaidOnce
import Derived.SevenTiedAt
import Derived.Test.YtkpkhncnenhlaaaGreatDoorCXFindEntry4
namespace Go.Proofs.YtkpkhncnenhlaaaGreatDoor.fnExactFindEntry
open Go.ChangeShapes Go.WideShapes Go.ChangeAt Go.RowKit Go.Proofs.YtkpkhncnenhlaaaGreatDoorEv
open Go.ChangeMaps (open_string shut_string)
theorem own : ownKnob Tryz.prog.godebug = none := by kernel_rfl
theorem laidOut : laidOutB Tryz.prog = true := by kernel_rfl
set_option maxRecDepth 100000 in
set_option maxHeartbeats 1000000 in
theorem lifted (os : Os) (started : os.Started) (H : Type) (enc : TypeId × Value → H) :
    ReturnsInHanded {} Tryz.checked os 4 .any (fun w args => (Rows.fnExactFindEntrySpec.pre enc Tryz.prog Tryz.f4 Rows.fnExactFindEntryRow.domain false w args ∧ laidMetH Tryz.prog Rows.fnExactFindEntryRow.laid w) ∧ sizedMet enc Tryz.prog Tryz.f4 (OpenSpec.ofChange Rows.fnExactFindEntrySpec) false w args) (Rows.fnExactFindEntrySpec.post enc Tryz.prog Tryz.f4 false true false false) := by
  refine returnsInHanded_of_change_and (C := Tryz.checked) (X := fun w _ => laidMetH Tryz.prog Rows.fnExactFindEntryRow.laid w) (fun _ _ _ hh h => h.of_heap hh) own started (by kernel_rfl) Tryz.func4
    (ChangeSpec.witness_shaped (enc := enc) (C := Tryz.checked) (os := os) (X := fun w _ => laidMetH Tryz.prog Rows.fnExactFindEntryRow.laid w) false (World.laidAll Tryz.prog os Rows.fnExactFindEntryRow.laid) #[.slice none 0 0, .agg #[.int .i64 0, .int .i64 0, .int .i64 0, .int .i64 0, .slice none 0 0]] 8 (World.laidAll_os _ _ _)
      (World.shaped_of_ZipB (by kernel_rfl) (by kernel_rfl)) (by kernel_rfl) (by kernel_rfl) (by kernel_rfl)
      (by rw [MakeChecks.laidMetH_plain _ _ _ (by kernel_rfl)]; exact laidMet_laidAll _ (by kernel_rfl) (by kernel_rfl))) ?_
  intro W base args ds gs before hval0 hW _ _ _ _
  have hval : ∀ (j : Nat) t v, Tryz.f4.params[j]? = some t → args[j]? = some v → Value.okWide Tryz.prog W .any base t v := hval0
  have hW' := hW
  obtain ⟨p, q, hA0, hV, rfl, hfz, hnd⟩ := hW
  have hA : DataW.TrodAll enc Tryz.prog W 0 (fun _ => true) true Tryz.f4.params.toList args.toList ds p := hA0
  rw [Tryz.params4] at hA hval
  obtain ⟨v0, vs0, d0, ds0, p0, q0, hargs, rfl, rfl, h0, r0⟩ := trodAll_cons hA
  obtain ⟨v1, vs1, d1, ds1, p1, q1, rfl, rfl, rfl, h1, r1⟩ := trodAll_cons r0
  obtain ⟨rfl, rfl, rfl⟩ := trodAll_nil r1
  obtain rfl : args = #[v0, v1] := by cases args; simp_all
  obtain ⟨rfl, rfl⟩ := trodVars_none hV
  have k0 := h0
  have lt0 : ∀ x ∈ p0, x.block < W.heap.size := by obtain ⟨m, hm⟩ := k0; exact DataW.trod_lt m _ _ _ hm
  obtain ⟨ad0, len0, cap0, rfl⟩ := okWide_slice Tryz.underlying22 (hval 0 22 v0 rfl rfl)
  obtain ⟨fuel0, hf0⟩ := h0
  obtain ⟨a0, K0, wf0⟩ := (opc_slice Tryz.underlying22 (by kernel_rfl) (opc_struct (n := 6) Tryz.underlying54 (by kernel_rfl) (opf_cons (n := 1) (m := 5) (by rfl) (by kernel_rfl) (opc_string Tryz.underlying9) (opf_one (n := 5) (by rfl) (by kernel_rfl) (opc_struct (n := 5) Tryz.underlying33 (by kernel_rfl) (opf_cons (n := 1) (m := 4) (by rfl) (by kernel_rfl) (opc_int Tryz.underlying2) (opf_cons (n := 3) (m := 1) (by rfl) (by kernel_rfl) (opc_struct (n := 3) Tryz.underlying30 (by kernel_rfl) (opf_cons (n := 1) (m := 2) (by rfl) (by kernel_rfl) (opc_int Tryz.underlying2) (opf_cons (n := 1) (m := 1) (by rfl) (by kernel_rfl) (opc_int Tryz.underlying2) (opf_one (n := 1) (by rfl) (by kernel_rfl) (opc_int Tryz.underlying2))))) (opf_one (n := 1) (by rfl) (by kernel_rfl) (opc_slice Tryz.underlying31 (by kernel_rfl) (opc_int Tryz.underlying2)))))))))) _ _ _ _ _ _ _ _ hf0
  have k1 := h1
  have lt1 : ∀ x ∈ p1, x.block < W.heap.size := by obtain ⟨m, hm⟩ := k1; exact DataW.trod_lt m _ _ _ hm
  obtain ⟨cs1, rfl⟩ := agg_of Tryz.underlying33 (hval 1 33 v1 rfl rfl)
  obtain ⟨fuel1, hf1⟩ := h1
  obtain ⟨x1, K1, wf1⟩ := (opc_struct (n := 5) Tryz.underlying33 (by kernel_rfl) (opf_cons (n := 1) (m := 4) (by rfl) (by kernel_rfl) (opc_int Tryz.underlying2) (opf_cons (n := 3) (m := 1) (by rfl) (by kernel_rfl) (opc_struct (n := 3) Tryz.underlying30 (by kernel_rfl) (opf_cons (n := 1) (m := 2) (by rfl) (by kernel_rfl) (opc_int Tryz.underlying2) (opf_cons (n := 1) (m := 1) (by rfl) (by kernel_rfl) (opc_int Tryz.underlying2) (opf_one (n := 1) (by rfl) (by kernel_rfl) (opc_int Tryz.underlying2))))) (opf_one (n := 1) (by rfl) (by kernel_rfl) (opc_slice Tryz.underlying31 (by kernel_rfl) (opc_int Tryz.underlying2)))))) _ _ _ _ _ _ _ _ hf1
  obtain ⟨a1_0, ⟨a1_1_0, a1_1_1, a1_1_2⟩, a1_2⟩ := x1
  refine (law_calls (law_FnExactFindEntry a0 a1_0 a1_1_0 a1_1_1 a1_1_2 a1_2 wf0 wf1) W (fun p hp => nomatch (show p ∈ ([] : List (Nat × List Value)) from hp)) [.slice ad0 len0 cap0, .agg cs1] ⟨_, _, rfl, ar_one K0, ⟨_, _, rfl, ar_agg K1, rfl⟩⟩).mono fun e W' ⟨he, bel⟩ => ?_
  subst he
  exact ⟨_, rfl, _, _, _, [], _, [], hW', trodAll_mk1 (shut_bool Tryz.underlying4 _), (trodAll_cons_mk (Below.trod laidOut (by kernel_rfl) (of_decide_eq_true (by kernel_rfl)) k0 bel lt0) (trodAll_cons_mk (Below.trod laidOut (by kernel_rfl) (of_decide_eq_true (by kernel_rfl)) k1 bel lt1) trodAll_mk0)), rfl, bel.frame _, fun h => by cases h⟩
theorem cl1 : (Rows.fnExactFindEntryRow.inPlace == Tryz.checked.prog.inPlace 4) = true := by kernel_rfl
theorem cl2 : (Rows.fnExactFindEntryRow.unfollowed == Tryz.checked.prog.unfollowed 4) = true := by kernel_rfl
theorem cl3 : (Rows.fnExactFindEntryRow.recurses == Tryz.checked.prog.recurses 4) = true := by kernel_rfl
theorem cl4 : (Rows.fnExactFindEntryRow.named == Tryz.checked.prog.varsNamed 4) = true := by kernel_rfl
theorem closed : joinedFacts Tryz.checked.prog 4 Tryz.f4 Rows.fnExactFindEntrySpec Rows.fnExactFindEntryRow = true := by
  unfold joinedFacts
  rw [cl1, cl2, cl3, cl4]
  kernel_rfl
theorem named : Tryz.checked.prog.funcNamed Rows.fnExactFindEntryRow.func = some 4 := by kernel_rfl
theorem over : Rows.fnExactFindEntryRow.holds Tryz.pinned (OpenSpec.ofChange Rows.fnExactFindEntrySpec) :=
  OpenClaim.holds_of_wide 4 Tryz.f4 rfl rfl rfl rfl rfl rfl rfl ⟨rfl, rfl, rfl, rfl, rfl⟩ rfl rfl rfl rfl rfl named Tryz.func4 closed
    (of_decide_eq_true (by kernel_rfl)) (by unfold Func.isWrapper; first | (rw [if_pos (by decide +kernel)]; kernel_rfl) | (rw [if_neg (by decide +kernel)]; exact ⟨rfl, rfl⟩))
    (fun os started H enc _ => lifted os started H enc)
theorem proved : Rows.FnExactFindEntrySaid := over
theorem tied : Rows.FnExactFindEntryCardSaid :=
  Claim7.holds_tied_plain_at .later [] [.data, .pinned] true (true, "9090c6c36b7d7558723b3e8324d17300cb0175f7361011bde5985bcf26262cea") false proved (fun _ h => by cases h) (by kernel_rfl) (fun _ h => by cases h) fnExactFindEntry_row_tie rfl ⟨rfl, rfl⟩ (by kernel_rfl) rfl
    (fun f fn hf hfn => by
      obtain rfl : f = 4 := Option.some.inj ((show Tryz.prog.funcNamed "loop.example/g00943/laws.FnExactFindEntry" = some 4 by kernel_rfl).symm.trans hf) |>.symm
      obtain rfl : fn = Tryz.f4 := (Option.some.inj (Tryz.func4.symm.trans hfn)).symm
      exact ⟨by kernel_rfl, fun j t ht => by
        rw [Tryz.params4] at ht
        have hm : t ∈ [22, 33] := by simpa using Array.mem_of_getElem? ht
        have hall : ([22, 33].all fun u => !Tryz.prog.wantsStandIn u) = true := by kernel_rfl
        exact (show Tryz.prog.wantsStandIn t = false by simpa using List.all_eq_true.1 hall t hm)⟩)
    (by kernel_rfl)
end Go.Proofs.YtkpkhncnenhlaaaGreatDoor.fnExactFindEntry
namespace Go.Proofs.YtkpkhncnenhlaaaGreatDoor
/-- The row, under a short name, for the claim. -/
theorem fnExactFindEntry_holds : Rows.FnExactFindEntryCardSaid := fnExactFindEntry.tied
end Go.Proofs.YtkpkhncnenhlaaaGreatDoor
