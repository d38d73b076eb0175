/- The law FnExactJournalOf holds: out of its contract. No condition of its own. -/
import Derived.Test.YtcnhcilpaplpcaaGreatDoorRows
import Derived.Test.YtcnhcilpaplpcaaGreatDoorChecked
import Derived.Test.YtcnhcilpaplpcaaGreatDoorTie
import Derived.Test.YtcnhcilpaplpcaaGreatDoorCards
import Derived.ProofKit
import Derived.Lay
import Derived.LaidOnce
import Derived.SevenTiedAt
import Derived.Lib.LaidTab
import Derived.Stop.LaidErr
import Derived.Test.YtcnhcilpaplpcaaGreatDoorCXJournalOf3
namespace Go.Proofs.YtcnhcilpaplpcaaGreatDoor.fnExactJournalOf
open Go.ChangeShapes Go.WideShapes Go.ChangeAt Go.RowKit Go.Proofs.YtcnhcilpaplpcaaGreatDoorEv
open Go.ChangeMaps (open_string shut_string)
theorem own : ownKnob Tryz.prog.godebug = none := by kernel_rfl
theorem laidOut : laidOutB Tryz.prog = true := by kernel_rfl
set_option maxRecDepth 100000 in
set_option maxHeartbeats 1000000 in
theorem lifted (os : Os) (started : os.Started) (H : Type) (enc : TypeId × Value → H) :
    ReturnsInHanded {} Tryz.checked os 3 .any (fun w args => (Rows.fnExactJournalOfSpec.pre enc Tryz.prog Tryz.f3 Rows.fnExactJournalOfRow.domain false w args ∧ laidMetH Tryz.prog Rows.fnExactJournalOfRow.laid w) ∧ sizedMet enc Tryz.prog Tryz.f3 (OpenSpec.ofChange Rows.fnExactJournalOfSpec) false w args) (Rows.fnExactJournalOfSpec.post enc Tryz.prog Tryz.f3 false true false false) := by
  refine returnsInHanded_of_change_and (C := Tryz.checked) (X := fun w _ => laidMetH Tryz.prog Rows.fnExactJournalOfRow.laid w) (fun _ _ _ hh h => h.of_heap hh) own started (by kernel_rfl) Tryz.func3
    (ChangeSpec.witness_shaped (enc := enc) (C := Tryz.checked) (os := os) (X := fun w _ => laidMetH Tryz.prog Rows.fnExactJournalOfRow.laid w) false (World.laidAll Tryz.prog os Rows.fnExactJournalOfRow.laid) #[.string ByteArray.empty, .int .i64 0, .slice none 0 0] 8 (World.laidAll_os _ _ _)
      (World.shaped_of_ZipB (by kernel_rfl) (by kernel_rfl)) (by kernel_rfl) (by kernel_rfl) (by kernel_rfl)
      (by rw [MakeChecks.laidMetH_plain _ _ _ (by kernel_rfl)]; exact laidMet_laidAll _ (by kernel_rfl) (by kernel_rfl))) ?_
  intro W base args ds gs before hval0 hW _ _ hlaid _
  have hval : ∀ (j : Nat) t v, Tryz.f3.params[j]? = some t → args[j]? = some v → Value.okWide Tryz.prog W .any base t v := hval0
  have hW' := hW
  obtain ⟨p, q, hA0, hV, rfl, hfz, hnd⟩ := hW
  have hA : DataW.TrodAll enc Tryz.prog W 0 (fun _ => true) true Tryz.f3.params.toList args.toList ds p := hA0
  rw [Tryz.params3] at hA hval
  obtain ⟨v0, vs0, d0, ds0, p0, q0, hargs, rfl, rfl, h0, r0⟩ := trodAll_cons hA
  obtain ⟨v1, vs1, d1, ds1, p1, q1, rfl, rfl, rfl, h1, r1⟩ := trodAll_cons r0
  obtain ⟨v2, vs2, d2, ds2, p2, q2, rfl, rfl, rfl, h2, r2⟩ := trodAll_cons r1
  obtain ⟨rfl, rfl, rfl⟩ := trodAll_nil r2
  obtain rfl : args = #[v0, v1, v2] := by cases args; simp_all
  obtain ⟨rfl, rfl⟩ := trodVars_none hV
  obtain ⟨a0, rfl, rfl, rfl, wf0⟩ := open_string Tryz.underlying9 (hval 0 9 v0 rfl rfl) h0
  obtain ⟨a1, rfl, rfl, rfl, wf1⟩ := open_int Tryz.underlying2 (hval 1 2 v1 rfl rfl) h1
  have k2 := h2
  have lt2 : ∀ x ∈ p2, x.block < W.heap.size := by obtain ⟨m, hm⟩ := k2; exact DataW.trod_lt m _ _ _ hm
  obtain ⟨ad2, len2, cap2, rfl⟩ := okWide_slice Tryz.underlying22 (hval 2 22 v2 rfl rfl)
  obtain ⟨fuel2, hf2⟩ := h2
  obtain ⟨a2, K2, wf2⟩ := (opc_slice Tryz.underlying22 (by kernel_rfl) (opc_struct (n := 3) Tryz.underlying58 (by kernel_rfl) (opf_cons (n := 2) (m := 1) (by rfl) (by kernel_rfl) (opc_struct (n := 2) Tryz.underlying56 (by kernel_rfl) (opf_cons (n := 1) (m := 1) (by rfl) (by kernel_rfl) (opc_int Tryz.underlying2) (opf_one (n := 1) (by rfl) (by kernel_rfl) (opc_int Tryz.underlying2)))) (opf_one (n := 1) (by rfl) (by kernel_rfl) (opc_int Tryz.underlying2))))) _ _ _ _ _ _ _ _ hf2
  have hlaid' : laidMet Tryz.prog Rows.fnExactJournalOfRow.laid W := by
    have := hlaid
    rw [MakeChecks.laidMetH_plain _ _ _ (by kernel_rfl)] at this
    exact this
  have htab := Lib.tabIs_of_head (P := Tryz.prog) (W := W) (name := "internal/strconv.uint64pow10") (k := .u64) (zs := ([1, 10, 100, 1000, 10000, 100000, 1000000, 10000000, 100000000, 1000000000, 10000000000, 100000000000, 1000000000000, 10000000000000, 100000000000000, 1000000000000000, 10000000000000000, 100000000000000000, 1000000000000000000, 10000000000000000000] : List Int)) (g := 1) (t := 183) (e := 42) (n := 20) (by kernel_rfl) (by kernel_rfl) (by kernel_rfl) (by kernel_rfl) (by kernel_rfl) (by kernel_rfl) (laidMet.tail (laidMet.tail hlaid'))
  have hT : Tbl W (fun _ => False) (below W) := by
    intro p hp
    have e := List.mem_singleton.1 (show p ∈ [_] from hp)
    subst e
    unfold Lib.TabIs World.var? at htab
    rw [show Tryz.prog.globalNamed "internal/strconv.uint64pow10" = some 1 by kernel_rfl] at htab
    simp only [Option.bind_some] at htab
    split at htab
    · rename_i cs t z hh
      have e := Option.some.inj htab
      subst e
      exact ⟨(Array.getElem?_eq_some_iff.1 hh).1, fun h => h, t, z, hh⟩
    · cases htab
  refine (law_calls (law_FnExactJournalOf a0 a1 a2 wf0 wf1 wf2) W hT [.string a0, .int .i64 a1, .slice ad2 len2 cap2] ⟨_, _, rfl, rfl, ⟨_, _, rfl, rfl, ⟨_, _, rfl, ar_one K2, rfl⟩⟩⟩).mono fun e W' ⟨he, bel⟩ => ?_
  subst he
  exact ⟨_, rfl, _, _, _, [], _, [], hW', trodAll_mk1 (shut_bool Tryz.underlying4 _), (trodAll_cons_mk (shut_string Tryz.underlying9 wf0) (trodAll_cons_mk (shut_int Tryz.underlying2 wf1) (trodAll_cons_mk (Below.trod laidOut (by kernel_rfl) (of_decide_eq_true (by kernel_rfl)) k2 bel lt2) trodAll_mk0))), rfl, bel.frame _, fun h => by cases h⟩
theorem cl1 : (Rows.fnExactJournalOfRow.inPlace == Tryz.checked.prog.inPlace 3) = true := by kernel_rfl
theorem cl2 : (Rows.fnExactJournalOfRow.unfollowed == Tryz.checked.prog.unfollowed 3) = true := by kernel_rfl
theorem cl3 : (Rows.fnExactJournalOfRow.recurses == Tryz.checked.prog.recurses 3) = true := by kernel_rfl
theorem cl4 : (Rows.fnExactJournalOfRow.named == Tryz.checked.prog.varsNamed 3) = true := by kernel_rfl
theorem closed : joinedFacts Tryz.checked.prog 3 Tryz.f3 Rows.fnExactJournalOfSpec Rows.fnExactJournalOfRow = true := by
  unfold joinedFacts
  rw [cl1, cl2, cl3, cl4]
  kernel_rfl
theorem named : Tryz.checked.prog.funcNamed Rows.fnExactJournalOfRow.func = some 3 := by kernel_rfl
theorem over : Rows.fnExactJournalOfRow.holds Tryz.pinned (OpenSpec.ofChange Rows.fnExactJournalOfSpec) :=
  OpenClaim.holds_of_wide 3 Tryz.f3 rfl rfl rfl rfl rfl rfl rfl ⟨rfl, rfl, rfl, rfl, rfl⟩ rfl rfl rfl rfl rfl named Tryz.func3 closed
    (of_decide_eq_true (by kernel_rfl)) (by unfold Func.isWrapper; first | (rw [if_pos (by decide +kernel)]; kernel_rfl) | (rw [if_neg (by decide +kernel)]; exact ⟨rfl, rfl⟩))
    (fun os started H enc _ => lifted os started H enc)
theorem proved : Rows.FnExactJournalOfSaid := over
theorem tied : Rows.FnExactJournalOfCardSaid :=
  Claim7.holds_tied_plain_at .later [] [.data, .data, .data] true (true, "38a001086f479b3abf788d9d98fc2400d714be0abdc5b2427ed98586cc86a401") true proved (fun _ h => by cases h) (by kernel_rfl) (fun _ h => by cases h) fnExactJournalOf_row_tie rfl ⟨rfl, rfl⟩ (by kernel_rfl) rfl
    (fun f fn hf hfn => by
      obtain rfl : f = 3 := Option.some.inj ((show Tryz.prog.funcNamed "loop.example/g00943/laws.FnExactJournalOf" = some 3 by kernel_rfl).symm.trans hf) |>.symm
      obtain rfl : fn = Tryz.f3 := (Option.some.inj (Tryz.func3.symm.trans hfn)).symm
      exact ⟨by kernel_rfl, fun j t ht => by
        rw [Tryz.params3] at ht
        have hm : t ∈ [9, 2, 22] := by simpa using Array.mem_of_getElem? ht
        have hall : ([9, 2, 22].all fun u => !Tryz.prog.wantsStandIn u) = true := by kernel_rfl
        exact (show Tryz.prog.wantsStandIn t = false by simpa using List.all_eq_true.1 hall t hm)⟩)
    (by kernel_rfl)
end Go.Proofs.YtcnhcilpaplpcaaGreatDoor.fnExactJournalOf
namespace Go.Proofs.YtcnhcilpaplpcaaGreatDoor
/-- The row, under a short name, for the claim. -/
theorem fnExactJournalOf_holds : Rows.FnExactJournalOfCardSaid := fnExactJournalOf.tied
end Go.Proofs.YtcnhcilpaplpcaaGreatDoor
