/- The law FnJournals holds: out of its contract. No condition of its own. -/
import Derived.Test.YtcnhcilpaplpcaaGreatDoorRows
import Derived.Test.YtcnhcilpaplpcaaGreatDoorChecked
import Derived.Test.YtcnhcilpaplpcaaGreatDoorTie
import Derived.Test.YtcnhcilpaplpcaaGreatDoorCards
import Derived.ProofKit
import Derived.Lay
import Derived.LaidOnce
import Derived.SevenTiedAt
import Derived.Test.YtcnhcilpaplpcaaGreatDoorCFnJournals4
namespace Go.Proofs.YtcnhcilpaplpcaaGreatDoor.fnJournals
open Go.ChangeShapes Go.WideShapes Go.ChangeAt Go.RowKit Go.Proofs.YtcnhcilpaplpcaaGreatDoorEv
open Go.ChangeMaps (open_string shut_string)
theorem own : ownKnob Tryz.prog.godebug = none := by kernel_rfl
theorem laidOut : laidOutB Tryz.prog = true := by kernel_rfl
set_option maxRecDepth 100000 in
set_option maxHeartbeats 1000000 in
theorem lifted (os : Os) (started : os.Started) (H : Type) (enc : TypeId × Value → H) :
    ReturnsInHanded {} Tryz.checked os 5 .any (fun w args => (Rows.fnJournalsSpec.pre enc Tryz.prog Tryz.f5 Rows.fnJournalsRow.domain false w args ∧ laidMetH Tryz.prog Rows.fnJournalsRow.laid w) ∧ sizedMet enc Tryz.prog Tryz.f5 (OpenSpec.ofChange Rows.fnJournalsSpec) false w args) (Rows.fnJournalsSpec.post enc Tryz.prog Tryz.f5 false true false false) := by
  refine returnsInHanded_both (C := Tryz.checked) (X := fun w _ => laidMetH Tryz.prog Rows.fnJournalsRow.laid w) (fun _ _ _ hh h => h.of_heap hh) own started (by kernel_rfl) Tryz.func5
    (ChangeSpec.witness_shaped (enc := enc) (C := Tryz.checked) (os := os) (X := fun w _ => laidMetH Tryz.prog Rows.fnJournalsRow.laid w) false (World.laidAll Tryz.prog os Rows.fnJournalsRow.laid) #[.slice none 0 0] 8 (World.laidAll_os _ _ _)
      (World.shaped_of_ZipB (by kernel_rfl) (by kernel_rfl)) (by kernel_rfl) (by kernel_rfl) (by kernel_rfl)
      (by rw [MakeChecks.laidMetH_plain _ _ _ (by kernel_rfl)]; exact laidMet_laidAll _ (by kernel_rfl) (by kernel_rfl))) ?_
  intro W base args ds gs before hval0 hW _ _ hlaid hshape _
  have hval : ∀ (j : Nat) t v, Tryz.f5.params[j]? = some t → args[j]? = some v → Value.okWide Tryz.prog W .any base t v := hval0
  have hW' := hW
  obtain ⟨p, q, hA0, hV, rfl, hfz, hnd⟩ := hW
  have hA : DataW.TrodAll enc Tryz.prog W 0 (fun _ => true) true Tryz.f5.params.toList args.toList ds p := hA0
  rw [Tryz.params5] at hA hval
  obtain ⟨v0, vs0, d0, ds0, p0, q0, hargs, rfl, rfl, h0, r0⟩ := trodAll_cons hA
  obtain ⟨rfl, rfl, rfl⟩ := trodAll_nil r0
  obtain rfl : args = #[v0] := by cases args; simp_all
  obtain ⟨rfl, rfl⟩ := trodVars_none hV
  have k0 := h0
  have lt0 : ∀ x ∈ p0, x.block < W.heap.size := by obtain ⟨m, hm⟩ := k0; exact DataW.trod_lt m _ _ _ hm
  obtain ⟨ad0, len0, cap0, rfl⟩ := okWide_slice Tryz.underlying34 (hval 0 34 v0 rfl rfl)
  obtain ⟨fuel0, hf0⟩ := h0
  obtain ⟨a0, K0, wf0⟩ := (opc_slice Tryz.underlying34 (by kernel_rfl) (opc_int Tryz.underlying5)) _ _ _ _ _ _ _ _ hf0
  have hlaid' : laidMet Tryz.prog Rows.fnJournalsRow.laid W := by
    have := hlaid
    rw [MakeChecks.laidMetH_plain _ _ _ (by kernel_rfl)] at this
    exact this
  have htab := Lib.tabIs_of_head (P := Tryz.prog) (W := W) (name := "internal/strconv.uint64pow10") (k := .u64) (zs := ([1, 10, 100, 1000, 10000, 100000, 1000000, 10000000, 100000000, 1000000000, 10000000000, 100000000000, 1000000000000, 10000000000000, 100000000000000, 1000000000000000, 10000000000000000, 100000000000000000, 1000000000000000000, 10000000000000000000] : List Int)) (g := 1) (t := 183) (e := 42) (n := 20) (by kernel_rfl) (by kernel_rfl) (by kernel_rfl) (by kernel_rfl) (by kernel_rfl) (by kernel_rfl) (laidMet.tail (laidMet.tail hlaid'))
  have t1 := tb_var (P := Tryz.prog) (g := 1) (by kernel_rfl) htab
  have t0 := tb_int (Go.Proofs.cell_of_shapedOpen_int (P := Tryz.prog) (g := 0) (t := 3) (zero := #[.int .i64 0]) (k := .i64) hshape (of_decide_eq_true (by kernel_rfl)) (by kernel_rfl) rfl (by kernel_rfl) (by kernel_rfl) Tryz.underlying3)
  have erow : ∀ u, Tryz.prog.typeName? 3 u = some "*errors.errorString" → u = 206 := fun u h => typeName_ptr_named (nm := "errors.errorString") (by rw [show "*" ++ "errors.errorString" = "*errors.errorString" by decide]; kernel_rfl) (by kernel_rfl) (by decide) u (by rw [show "*" ++ "errors.errorString" = "*errors.errorString" by decide]; exact h)
  obtain ⟨_, _, hvt2, _⟩ := laid_sentinel (P := Tryz.prog) (W := W) (g := 2) (ti := 108) (tp := 206) (te := 208) (ts := 9) (laidMet.tail (laidMet.tail (laidMet.tail (laidMet.tail (laidMet.tail hlaid'))))) (by kernel_rfl) (by kernel_rfl) Tryz.underlying108 erow Tryz.underlying206 Tryz.underlying208 rfl rfl Tryz.underlying9 (by kernel_rfl) (by kernel_rfl)
  have t2 := tb_err (P := Tryz.prog) (g := 2) (by kernel_rfl) hvt2
  obtain ⟨_, _, hvt3, _⟩ := laid_sentinel (P := Tryz.prog) (W := W) (g := 3) (ti := 108) (tp := 206) (te := 208) (ts := 9) (laidMet.tail (laidMet.tail (laidMet.tail (laidMet.tail hlaid')))) (by kernel_rfl) (by kernel_rfl) Tryz.underlying108 erow Tryz.underlying206 Tryz.underlying208 rfl rfl Tryz.underlying9 (by kernel_rfl) (by kernel_rfl)
  have t3 := tb_err (P := Tryz.prog) (g := 3) (by kernel_rfl) hvt3
  have hT : Tbl W (fun _ => False) (below W) := by
    intro p hp
    rcases List.mem_cons.1 (show p ∈ [_, _, _, _] from hp) with rfl | hp
    · exact t1
    rcases List.mem_cons.1 hp with rfl | hp
    · exact t0
    rcases List.mem_cons.1 hp with rfl | hp
    · exact t2
    obtain rfl := List.mem_singleton.1 hp
    exact t3
  refine (law_calls (law_FnJournals a0 wf0) W hT [.slice ad0 len0 cap0] ⟨_, _, rfl, ar_one K0, rfl⟩).mono fun e W' ⟨he, bel⟩ => ?_
  subst he
  exact ⟨_, rfl, _, _, _, [], _, [], hW', trodAll_mk1 (shut_bool Tryz.underlying4 _), (trodAll_cons_mk (Below.trod laidOut (by kernel_rfl) (of_decide_eq_true (by kernel_rfl)) k0 bel lt0) trodAll_mk0), rfl, bel.frame _, fun h => by cases h⟩
theorem cl1 : (Rows.fnJournalsRow.inPlace == Tryz.checked.prog.inPlace 5) = true := by kernel_rfl
theorem cl2 : (Rows.fnJournalsRow.unfollowed == Tryz.checked.prog.unfollowed 5) = true := by kernel_rfl
theorem cl3 : (Rows.fnJournalsRow.recurses == Tryz.checked.prog.recurses 5) = true := by kernel_rfl
theorem cl4 : (Rows.fnJournalsRow.named == Tryz.checked.prog.varsNamed 5) = true := by kernel_rfl
theorem closed : joinedFacts Tryz.checked.prog 5 Tryz.f5 Rows.fnJournalsSpec Rows.fnJournalsRow = true := by
  unfold joinedFacts
  rw [cl1, cl2, cl3, cl4]
  kernel_rfl
theorem named : Tryz.checked.prog.funcNamed Rows.fnJournalsRow.func = some 5 := by kernel_rfl
theorem over : Rows.fnJournalsRow.holds Tryz.pinned (OpenSpec.ofChange Rows.fnJournalsSpec) :=
  OpenClaim.holds_of_wide 5 Tryz.f5 rfl rfl rfl rfl rfl rfl rfl ⟨rfl, rfl, rfl, rfl, rfl⟩ rfl rfl rfl rfl rfl named Tryz.func5 closed
    (of_decide_eq_true (by kernel_rfl)) (by unfold Func.isWrapper; first | (rw [if_pos (by decide +kernel)]; kernel_rfl) | (rw [if_neg (by decide +kernel)]; exact ⟨rfl, rfl⟩))
    (fun os started H enc _ => lifted os started H enc)
theorem proved : Rows.FnJournalsSaid := over
theorem td1 : Rows.fnJournalsRow.wfByText (OpenSpec.ofChange Rows.fnJournalsSpec) = true := by kernel_rfl
theorem td2 : Tryz.pinned.checked.prog.mainIs = some (Prod.fst (true, "38a001086f479b3abf788d9d98fc2400d714be0abdc5b2427ed98586cc86a401"), (Prod.snd (true, "38a001086f479b3abf788d9d98fc2400d714be0abdc5b2427ed98586cc86a401")).toList) := by kernel_rfl
theorem td3 : Tryz.prog.funcNamed "loop.example/g00943/laws.FnJournals" = some 5 := by kernel_rfl
theorem td4 : true = Tryz.pinned.checked.prog.looks [] := by kernel_rfl
theorem td5 : ([34].all fun u => !Tryz.prog.wantsStandIn u) = true := by kernel_rfl
theorem td6 : false = Rows.fnJournalsRow.goesBy Tryz.pinned.checked.prog := by kernel_rfl
theorem tied : Rows.FnJournalsCardSaid :=
  Claim7.holds_tied_plain_at .later [] [.data, .data, .data, .data, .sentinel, .sentinel, .pinned] true (true, "38a001086f479b3abf788d9d98fc2400d714be0abdc5b2427ed98586cc86a401") true proved (fun _ h => by cases h) td1 (fun _ h => by cases h) fnJournals_row_tie rfl ⟨rfl, rfl⟩ td2 rfl
    (fun f fn hf hfn => by
      obtain rfl : f = 5 := Option.some.inj (td3.symm.trans hf) |>.symm
      obtain rfl : fn = Tryz.f5 := (Option.some.inj (Tryz.func5.symm.trans hfn)).symm
      exact ⟨td4, fun j t ht => by
        rw [Tryz.params5] at ht
        have hm : t ∈ [34] := by simpa using Array.mem_of_getElem? ht
        exact (show Tryz.prog.wantsStandIn t = false by simpa using List.all_eq_true.1 td5 t hm)⟩)
    td6
end Go.Proofs.YtcnhcilpaplpcaaGreatDoor.fnJournals
namespace Go.Proofs.YtcnhcilpaplpcaaGreatDoor
/-- The row, under a short name, for the claim. -/
theorem fnJournals_holds : Rows.FnJournalsCardSaid := fnJournals.tied
end Go.Proofs.YtcnhcilpaplpcaaGreatDoor
