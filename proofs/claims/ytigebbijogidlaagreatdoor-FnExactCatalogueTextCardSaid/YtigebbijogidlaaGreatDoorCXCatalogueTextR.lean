/- The law FnExactCatalogueText holds: out of its contract. No condition of its own. -/
import Derived.Test.YtigebbijogidlaaGreatDoorRows
import Derived.Test.YtigebbijogidlaaGreatDoorChecked
import Derived.Test.YtigebbijogidlaaGreatDoorTie
import Derived.Test.YtigebbijogidlaaGreatDoorCards
import Derived.ProofKit
import Derived.Lay
import Derived.LaidOnce
import Derived.SevenTiedAt
import Derived.Test.YtigebbijogidlaaGreatDoorCXCatalogueText4
namespace Go.Proofs.YtigebbijogidlaaGreatDoor.fnExactCatalogueText
open Go.ChangeShapes Go.WideShapes Go.ChangeAt Go.RowKit Go.Proofs.YtigebbijogidlaaGreatDoorFv
open Go.ChangeMaps (open_string shut_string)
theorem own : ownKnob Tryz.prog.godebug = none := by kernel_rfl
theorem laidOut : laidOutB Tryz.prog = true := by kernel_rfl
set_option maxRecDepth 100000 in
set_option maxHeartbeats 1000000 in
theorem lifted (os : Os) (started : os.Started) (H : Type) (enc : TypeId × Value → H) :
    ReturnsInHanded {} Tryz.checked os 6 .any (fun w args => (Rows.fnExactCatalogueTextSpec.pre enc Tryz.prog Tryz.f6 Rows.fnExactCatalogueTextRow.domain false w args ∧ laidMetH Tryz.prog Rows.fnExactCatalogueTextRow.laid w) ∧ sizedMet enc Tryz.prog Tryz.f6 (OpenSpec.ofChange Rows.fnExactCatalogueTextSpec) false w args) (Rows.fnExactCatalogueTextSpec.post enc Tryz.prog Tryz.f6 false true false false) := by
  refine returnsInHanded_both (C := Tryz.checked) (X := fun w _ => laidMetH Tryz.prog Rows.fnExactCatalogueTextRow.laid w) (fun _ _ _ hh h => h.of_heap hh) own started (by kernel_rfl) Tryz.func6
    (ChangeSpec.witness_shaped (enc := enc) (C := Tryz.checked) (os := os) (X := fun w _ => laidMetH Tryz.prog Rows.fnExactCatalogueTextRow.laid w) false (World.laidAll Tryz.prog os Rows.fnExactCatalogueTextRow.laid) #[.slice none 0 0] 8 (World.laidAll_os _ _ _)
      (World.shaped_of_ZipB (by kernel_rfl) (by kernel_rfl)) (by kernel_rfl) (by kernel_rfl) (by kernel_rfl)
      (by rw [MakeChecks.laidMetH_plain _ _ _ (by kernel_rfl)]; exact laidMet_laidAll _ (by kernel_rfl) (by kernel_rfl))) ?_
  intro W base args ds gs before hval0 hW _ _ hlaid hshape _
  have hval : ∀ (j : Nat) t v, Tryz.f6.params[j]? = some t → args[j]? = some v → Value.okWide Tryz.prog W .any base t v := hval0
  have hW' := hW
  obtain ⟨p, q, hA0, hV, rfl, hfz, hnd⟩ := hW
  have hA : DataW.TrodAll enc Tryz.prog W 0 (fun _ => true) true Tryz.f6.params.toList args.toList ds p := hA0
  rw [Tryz.params6] at hA hval
  obtain ⟨v0, vs0, d0, ds0, p0, q0, hargs, rfl, rfl, h0, r0⟩ := trodAll_cons hA
  obtain ⟨rfl, rfl, rfl⟩ := trodAll_nil r0
  obtain rfl : args = #[v0] := by cases args; simp_all
  obtain ⟨rfl, rfl⟩ := trodVars_none hV
  have k0 := h0
  have lt0 : ∀ x ∈ p0, x.block < W.heap.size := by obtain ⟨m, hm⟩ := k0; exact DataW.trod_lt m _ _ _ hm
  obtain ⟨ad0, len0, cap0, rfl⟩ := okWide_slice Tryz.underlying22 (hval 0 22 v0 rfl rfl)
  obtain ⟨fuel0, hf0⟩ := h0
  obtain ⟨a0, K0, wf0⟩ := (opc_slice Tryz.underlying22 (by kernel_rfl) (opc_struct (n := 6) Tryz.underlying84 (by kernel_rfl) (opf_cons (n := 1) (m := 5) (by rfl) (by kernel_rfl) (opc_string Tryz.underlying9) (opf_one (n := 5) (by rfl) (by kernel_rfl) (opc_struct (n := 5) Tryz.underlying42 (by kernel_rfl) (opf_cons (n := 1) (m := 4) (by rfl) (by kernel_rfl) (opc_int Tryz.underlying2) (opf_cons (n := 3) (m := 1) (by rfl) (by kernel_rfl) (opc_struct (n := 3) Tryz.underlying40 (by kernel_rfl) (opf_cons (n := 1) (m := 2) (by rfl) (by kernel_rfl) (opc_int Tryz.underlying2) (opf_cons (n := 1) (m := 1) (by rfl) (by kernel_rfl) (opc_int Tryz.underlying2) (opf_one (n := 1) (by rfl) (by kernel_rfl) (opc_int Tryz.underlying2))))) (opf_one (n := 1) (by rfl) (by kernel_rfl) (opc_slice Tryz.underlying26 (by kernel_rfl) (opc_int Tryz.underlying2)))))))))) _ _ _ _ _ _ _ _ hf0
  have hlaid' : laidMet Tryz.prog Rows.fnExactCatalogueTextRow.laid W := by
    have := hlaid
    rw [MakeChecks.laidMetH_plain _ _ _ (by kernel_rfl)] at this
    exact this
  have htab := Lib.tabIs_of_head (P := Tryz.prog) (W := W) (name := "internal/strconv.uint64pow10") (k := .u64) (zs := ([1, 10, 100, 1000, 10000, 100000, 1000000, 10000000, 100000000, 1000000000, 10000000000, 100000000000, 1000000000000, 10000000000000, 100000000000000, 1000000000000000, 10000000000000000, 100000000000000000, 1000000000000000000, 10000000000000000000] : List Int)) (g := 3) (t := 295) (e := 284) (n := 20) (by kernel_rfl) (by kernel_rfl) (by kernel_rfl) (by kernel_rfl) (by kernel_rfl) (by kernel_rfl) (laidMet.tail (laidMet.tail hlaid'))
  have t1 := tb_var (P := Tryz.prog) (g := 3) (by kernel_rfl) htab
  have t0 := tb_int (Go.Proofs.cell_of_shapedOpen_int (P := Tryz.prog) (g := 0) (t := 3) (zero := #[.int .i64 0]) (k := .i64) hshape (of_decide_eq_true (by kernel_rfl)) (by kernel_rfl) rfl (by kernel_rfl) (by kernel_rfl) Tryz.underlying3)

  have hT : Tbl W (fun _ => False) (below W) := by
    intro p hp
    rcases List.mem_cons.1 (show p ∈ [_, _] from hp) with rfl | hp
    · exact t1
    obtain rfl := List.mem_singleton.1 hp
    exact t0
  refine (law_calls (law_FnExactCatalogueText a0 wf0) W hT [.slice ad0 len0 cap0] ⟨_, _, rfl, ar_one K0, rfl⟩).mono fun e W' ⟨he, bel⟩ => ?_
  subst he
  exact ⟨_, rfl, _, _, _, [], _, [], hW', trodAll_mk1 (shut_bool Tryz.underlying4 _), (trodAll_cons_mk (Below.trod laidOut (by kernel_rfl) (of_decide_eq_true (by kernel_rfl)) k0 bel lt0) trodAll_mk0), rfl, bel.frame _, fun h => by cases h⟩
theorem cl1 : (Rows.fnExactCatalogueTextRow.inPlace == Tryz.checked.prog.inPlace 6) = true := by kernel_rfl
theorem cl2 : (Rows.fnExactCatalogueTextRow.unfollowed == Tryz.checked.prog.unfollowed 6) = true := by kernel_rfl
theorem cl3 : (Rows.fnExactCatalogueTextRow.recurses == Tryz.checked.prog.recurses 6) = true := by kernel_rfl
theorem cl4 : (Rows.fnExactCatalogueTextRow.named == Tryz.checked.prog.varsNamed 6) = true := by kernel_rfl
theorem closed : joinedFacts Tryz.checked.prog 6 Tryz.f6 Rows.fnExactCatalogueTextSpec Rows.fnExactCatalogueTextRow = true := by
  unfold joinedFacts
  rw [cl1, cl2, cl3, cl4]
  kernel_rfl
theorem named : Tryz.checked.prog.funcNamed Rows.fnExactCatalogueTextRow.func = some 6 := by kernel_rfl
theorem over : Rows.fnExactCatalogueTextRow.holds Tryz.pinned (OpenSpec.ofChange Rows.fnExactCatalogueTextSpec) :=
  OpenClaim.holds_of_wide 6 Tryz.f6 rfl rfl rfl rfl rfl rfl rfl ⟨rfl, rfl, rfl, rfl, rfl⟩ rfl rfl rfl rfl rfl named Tryz.func6 closed
    (of_decide_eq_true (by kernel_rfl)) (by unfold Func.isWrapper; first | (rw [if_pos (by decide +kernel)]; kernel_rfl) | (rw [if_neg (by decide +kernel)]; exact ⟨rfl, rfl⟩))
    (fun os started H enc _ => lifted os started H enc)
theorem proved : Rows.FnExactCatalogueTextSaid := over
theorem td1 : Rows.fnExactCatalogueTextRow.wfByText (OpenSpec.ofChange Rows.fnExactCatalogueTextSpec) = true := by kernel_rfl
theorem td2 : Tryz.pinned.checked.prog.mainIs = some (Prod.fst (true, "2ad1b52ddcd5cfaf80f7bc741ce49286218da791d60751b986a2fc53baf7d951"), (Prod.snd (true, "2ad1b52ddcd5cfaf80f7bc741ce49286218da791d60751b986a2fc53baf7d951")).toList) := by kernel_rfl
theorem td3 : Tryz.prog.funcNamed "loop.example/g00943/laws.FnExactCatalogueText" = some 6 := by kernel_rfl
theorem td4 : true = Tryz.pinned.checked.prog.looks [] := by kernel_rfl
theorem td5 : ([22].all fun u => !Tryz.prog.wantsStandIn u) = true := by kernel_rfl
theorem td6 : false = Rows.fnExactCatalogueTextRow.goesBy Tryz.pinned.checked.prog := by kernel_rfl
theorem tied : Rows.FnExactCatalogueTextCardSaid :=
  Claim7.holds_tied_plain_at .later [] [.data, .data, .data, .data, .pinned] true (true, "2ad1b52ddcd5cfaf80f7bc741ce49286218da791d60751b986a2fc53baf7d951") true proved (fun _ h => by cases h) td1 (fun _ h => by cases h) fnExactCatalogueText_row_tie rfl ⟨rfl, rfl⟩ td2 rfl
    (fun f fn hf hfn => by
      obtain rfl : f = 6 := Option.some.inj (td3.symm.trans hf) |>.symm
      obtain rfl : fn = Tryz.f6 := (Option.some.inj (Tryz.func6.symm.trans hfn)).symm
      exact ⟨td4, fun j t ht => by
        rw [Tryz.params6] at ht
        have hm : t ∈ [22] := by simpa using Array.mem_of_getElem? ht
        exact (show Tryz.prog.wantsStandIn t = false by simpa using List.all_eq_true.1 td5 t hm)⟩)
    td6
end Go.Proofs.YtigebbijogidlaaGreatDoor.fnExactCatalogueText
namespace Go.Proofs.YtigebbijogidlaaGreatDoor
/-- The row, under a short name, for the claim. -/
theorem fnExactCatalogueText_holds : Rows.FnExactCatalogueTextCardSaid := fnExactCatalogueText.tied
end Go.Proofs.YtigebbijogidlaaGreatDoor
