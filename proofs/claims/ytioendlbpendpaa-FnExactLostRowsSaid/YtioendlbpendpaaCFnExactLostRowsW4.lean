/- Part of the proof of the law FnExactLostRows: each function of the code computes what its plain function says. No condition of its own. -/
import Derived.Test.YtioendlbpendpaaCFnExactLostRowsW3
set_option maxHeartbeats 8000000
set_option maxRecDepth 100000
namespace Go.Proofs.Ytioendlbpendpaa.X
open Go.RowKit Go.Proofs.YtioendlbpendpaaW.PrintWords Go.Proofs.YtioendlbpendpaaW.PrintLast Go.Proofs.YtioendlbpendpaaW.PrintMore
attribute [local go_sem] max2_int min2_int max_two min_two max_three min_three max_four min_four   -- for this text's walks alone
set_option linter.unusedVariables false
set_option linter.unusedSimpArgs false
theorem yH.calls (k : Nat) (a0_0 : Int) (a0_1 : Int) (a0_2 : Int) (a0_3 : Int) (A0_4 : Option Addr) (c0_4 : Nat) (l0_4 : List Int) (r1 : Int) (r2 : Int) (r3 : Int) (w : World) (hr0_4 : Kd.C (Kd.int .i64) w A0_4 l0_4.length l0_4) (hc0_4 : l0_4.length ≤ c0_4) (h : yH.f k a0_0 a0_1 a0_2 a0_3 l0_4 = some (r1, r2, r3)) :
  Calls Try.prog 132 #[.agg #[.int .i64 a0_0, .int .i64 a0_1, .int .i64 a0_2, .int .i64 a0_3, .slice A0_4 l0_4.length c0_4]] w fun e w' => e = .returned (.agg #[.int .i64 r1, .int .i64 r2, .int .i64 r3]) ∧ Below w.heap.size w w' := by
 have hu32 := Try.underlying32
 have hu30 := Try.underlying30
 have hu50 := Try.underlying50
 have hu52 := Try.underlying52
 have HR0_4 := zC.mk hr0_4
 have HC0_4 := zC.mk hc0_4
 clear hr0_4 hc0_4
 have HB := zC.mk (Below.refl w.heap.size w)
 have H : ((xU.f a0_1 a0_2 a0_3).bind fun bt348 => ((yG.f k a0_1 a0_2 a0_3).bind fun t357 => (yH.l0 k (([(⟨bt348.1, bt348.2.1⟩ : S50), (⟨bt348.2.2.1, bt348.2.2.2⟩ : S50)] : List (S50))) t357 (t357.length : Int) 0 a0_0 a0_1 a0_2 a0_3 l0_4))) = some (r1, r2, r3) := h
 clear h
 replace H := Option.bind_eq_some_iff.mp H
 obtain ⟨⟨t348, t349, t350, t351⟩, A20, H⟩ := H
 replace H : ((yG.f k a0_1 a0_2 a0_3).bind fun t357 => (yH.l0 k (([(⟨t348, t349⟩ : S50), (⟨t350, t351⟩ : S50)] : List (S50))) t357 (t357.length : Int) 0 a0_0 a0_1 a0_2 a0_3 l0_4)) = some (r1, r2, r3) := H
 have A2 := zC.mk A20
 clear A20
 obtain ⟨y354, hy354⟩ : ∃ y_ : List (S50), y_ = (([(⟨t348, t349⟩ : S50), (⟨t350, t351⟩ : S50)] : List (S50))) := ⟨_, rfl⟩
 replace H : ((yG.f k a0_1 a0_2 a0_3).bind fun t357 => (yH.l0 k y354 t357 (t357.length : Int) 0 a0_0 a0_1 a0_2 a0_3 l0_4)) = some (r1, r2, r3) := by first | (rw [hy354]; with_reducible exact H) | (have H2_ := (Option.bind_some _ _).symm.trans H; rw [hy354]; with_reducible exact H2_) | (have H2_ := (Option.bind_some _ _).symm.trans H; with_reducible exact H2_) | with_reducible exact H | (rw [hy354]; exact H) | exact H
 have Ny354 := zC.mk hy354
 clear hy354
 replace H := Option.bind_eq_some_iff.mp H
 obtain ⟨t357, A30, H⟩ := H
 replace H : (yH.l0 k y354 t357 (t357.length : Int) 0 a0_0 a0_1 a0_2 a0_3 l0_4) = some (r1, r2, r3) := H
 have A3 := zC.mk A30
 clear A30
 have H' := zC.mk H
 clear H
 go_enter Try.func132, Try.ntmps132
 go_wp2_with (first | ((with_reducible refine zP (N := 1) rfl ?_); refine zN ?hg (N := 1) ?hd (cs := #[.int .i64 a0_0, .int .i64 a0_1, .int .i64 a0_2, .int .i64 a0_3, .slice A0_4 l0_4.length c0_4]) (t := 32) ?hr ?_; (case hd => rfl); (case hg => rfl); (case hr => first | (go_simp; done) | (go_simp; rfl)); intro gb346 hg w4 hbox hb; have n0_ := zC.mk (zL (by repeat (first | (with_reducible first | exact HB.out | apply zG | apply zA | apply zD) | exact HB.out)) hb); have n1_ := zC.mk (hbox); have n2_ := zC.mk ((by rw [hg]; exact (zM (by repeat (first | (with_reducible first | exact HB.out | apply zG | apply zA | apply zD) | exact HB.out))) : w.heap.size ≤ gb346)); have n3_ := n2_; clear HB; have HB := n0_; have BK346 := n1_; have GW346 := n2_; have GE346 := n3_; clear n0_ n1_ n2_ n3_; clear hb hbox hg) | ((with_reducible refine zP (N := 2) rfl ?_); refine zN ?hg (N := 2) ?hd (cs := #[.int .i64 0, .int .i64 0, .int .i64 0]) (t := 30) ?hr ?_; (case hd => rfl); (case hg => rfl); (case hr => first | (go_simp; done) | (go_simp; rfl)); intro gb347 hg w5 hbox hb; have n0_ := zC.mk (zK (g := gb346) (o := .cells #[.int .i64 a0_0, .int .i64 a0_1, .int .i64 a0_2, .int .i64 a0_3, .slice A0_4 l0_4.length c0_4] 32 (0, 0)) (by (with_reducible repeat (first | refine zE ?_ _ | refine zI ?_ | refine zF ?_ _)); exact BK346.out) hb); have n1_ := zC.mk (zL (by repeat (first | (with_reducible first | exact HB.out | apply zG | apply zA | apply zD | refine zH ?_ GE346.out) | exact HB.out)) hb); have n2_ := zC.mk (hbox); have n3_ := zC.mk ((by rw [hg]; exact (zM (by repeat (first | (with_reducible first | exact HB.out | apply zG | apply zA | apply zD | refine zH ?_ GE346.out) | exact HB.out))) : w.heap.size ≤ gb347)); have n4_ := n3_; have n5_ := zC.mk ((by rw [hg]; exact Nat.ne_of_lt (zV (by (with_reducible repeat (first | refine zE ?_ _ | refine zI ?_ | refine zF ?_ _)); exact BK346.out)) : gb346 ≠ gb347)); have n6_ := zC.mk n5_.out.symm; clear BK346; clear HB; have BK346 := n0_; have HB := n1_; have BK347 := n2_; have GW347 := n3_; have GE347 := n4_; have NB346_347 := n5_; have NB347_346 := n6_; clear n0_ n1_ n2_ n3_ n4_ n5_ n6_; clear hb hbox hg; have hnb6 := NB346_347.out; have hnc6 := NB347_346.out; have hcz7_0 : w5.cell? ⟨gb346, 0, none⟩ = some (.int .i64 a0_0) := zB BK346.out 0; have hcz7_1 : w5.cell? ⟨gb346, 1, none⟩ = some (.int .i64 a0_1) := zB BK346.out 1; have hcz7_2 : w5.cell? ⟨gb346, 2, none⟩ = some (.int .i64 a0_2) := zB BK346.out 2; have hcz7_3 : w5.cell? ⟨gb346, 3, none⟩ = some (.int .i64 a0_3) := zB BK346.out 3; have hcz7_4 : w5.cell? ⟨gb346, 4, none⟩ = some (.slice A0_4 l0_4.length c0_4) := zB BK346.out 4; have hfz7_0 := zJ BK346.out 0; have hfz7_1 := zJ BK346.out 1; have hfz7_2 := zJ BK346.out 2; have hfz7_3 := zJ BK346.out 3; have hfz7_4 := zJ BK346.out 4) | ((with_reducible refine zQ (f := 144) rfl ?_); refine zX (some 11) rfl rfl Try.func144 (by kernel_rfl) rfl #[.agg #[.int .i64 a0_1, .int .i64 a0_2, .int .i64 a0_3]] rfl (by (try simp only [List.map_toArray, List.map_cons, List.map_nil]); first | done | rfl) ?_; (with_reducible refine (xU.calls a0_1 a0_2 a0_3 t348 t349 t350 t351 _ A2.out).mono ?_); rintro e w8 ⟨rfl, hb⟩; refine ⟨_, rfl, ?_⟩; have n0_ := zC.mk (zK (g := gb346) (o := .cells #[.int .i64 a0_0, .int .i64 a0_1, .int .i64 a0_2, .int .i64 a0_3, .slice A0_4 l0_4.length c0_4] 32 (0, 0)) (by (with_reducible repeat (first | refine zE ?_ _ | refine zI ?_ | refine zF ?_ _)); exact BK346.out) hb); have n1_ := zC.mk (zK (g := gb347) (o := .cells #[.int .i64 0, .int .i64 0, .int .i64 0] 30 (0, 0)) (by (with_reducible repeat (first | refine zE ?_ _ | refine zI ?_ | refine zF ?_ _)); exact BK347.out) hb); have n2_ := zC.mk (zL (by repeat (first | (with_reducible first | exact HB.out | apply zG | apply zA | apply zD | refine zH ?_ GE346.out | refine zH ?_ GE347.out) | exact HB.out)) hb); clear BK346; clear BK347; clear HB; have BK346 := n0_; have BK347 := n1_; have HB := n2_; clear n0_ n1_ n2_; (try clear hb)) | ((with_reducible refine zP (N := 3) rfl ?_); refine zN ?hg (N := 3) ?hd (cs := #[.int .i64 0, .int .i64 0]) (t := 50) ?hr ?_; (case hd => rfl); (case hg => rfl); (case hr => first | (go_simp; done) | (go_simp; rfl)); intro gb352 hg w9 hbox hb; have n0_ := zC.mk (zK (g := gb346) (o := .cells #[.int .i64 a0_0, .int .i64 a0_1, .int .i64 a0_2, .int .i64 a0_3, .slice A0_4 l0_4.length c0_4] 32 (0, 0)) (by (with_reducible repeat (first | refine zE ?_ _ | refine zI ?_ | refine zF ?_ _)); exact BK346.out) hb); have n1_ := zC.mk (zK (g := gb347) (o := .cells #[.int .i64 0, .int .i64 0, .int .i64 0] 30 (0, 0)) (by (with_reducible repeat (first | refine zE ?_ _ | refine zI ?_ | refine zF ?_ _)); exact BK347.out) hb); have n2_ := zC.mk (zL (by repeat (first | (with_reducible first | exact HB.out | apply zG | apply zA | apply zD | refine zH ?_ GE346.out | refine zH ?_ GE347.out) | exact HB.out)) hb); have n3_ := zC.mk (hbox); have n4_ := zC.mk ((by rw [hg]; exact (zM (by repeat (first | (with_reducible first | exact HB.out | apply zG | apply zA | apply zD | refine zH ?_ GE346.out | refine zH ?_ GE347.out) | exact HB.out))) : w.heap.size ≤ gb352)); have n5_ := n4_; have n6_ := zC.mk ((by rw [hg]; exact Nat.ne_of_lt (zV (by (with_reducible repeat (first | refine zE ?_ _ | refine zI ?_ | refine zF ?_ _)); exact BK346.out)) : gb346 ≠ gb352)); have n7_ := zC.mk n6_.out.symm; have n8_ := zC.mk ((by rw [hg]; exact Nat.ne_of_lt (zV (by (with_reducible repeat (first | refine zE ?_ _ | refine zI ?_ | refine zF ?_ _)); exact BK347.out)) : gb347 ≠ gb352)); have n9_ := zC.mk n8_.out.symm; clear BK346; clear BK347; clear HB; have BK346 := n0_; have BK347 := n1_; have HB := n2_; have BK352 := n3_; have GW352 := n4_; have GE352 := n5_; have NB346_352 := n6_; have NB352_346 := n7_; have NB347_352 := n8_; have NB352_347 := n9_; clear n0_ n1_ n2_ n3_ n4_ n5_ n6_ n7_ n8_ n9_; clear hb hbox hg) | ((with_reducible refine zP (N := 4) rfl ?_); refine zN ?hg (N := 4) ?hd (cs := #[.int .i64 0, .int .i64 0]) (t := 50) ?hr ?_; (case hd => rfl); (case hg => rfl); (case hr => first | (go_simp; done) | (go_simp; rfl)); intro gb353 hg w10 hbox hb; have n0_ := zC.mk (zK (g := gb346) (o := .cells #[.int .i64 a0_0, .int .i64 a0_1, .int .i64 a0_2, .int .i64 a0_3, .slice A0_4 l0_4.length c0_4] 32 (0, 0)) (by (with_reducible repeat (first | refine zE ?_ _ | refine zI ?_ | refine zF ?_ _)); exact BK346.out) hb); have n1_ := zC.mk (zK (g := gb347) (o := .cells #[.int .i64 0, .int .i64 0, .int .i64 0] 30 (0, 0)) (by (with_reducible repeat (first | refine zE ?_ _ | refine zI ?_ | refine zF ?_ _)); exact BK347.out) hb); have n2_ := zC.mk (zK (g := gb352) (o := .cells #[.int .i64 0, .int .i64 0] 50 (0, 0)) (by (with_reducible repeat (first | refine zE ?_ _ | refine zI ?_ | refine zF ?_ _)); exact BK352.out) hb); have n3_ := zC.mk (zL (by repeat (first | (with_reducible first | exact HB.out | apply zG | apply zA | apply zD | refine zH ?_ GE346.out | refine zH ?_ GE347.out | refine zH ?_ GE352.out) | exact HB.out)) hb); have n4_ := zC.mk (hbox); have n5_ := zC.mk ((by rw [hg]; exact (zM (by repeat (first | (with_reducible first | exact HB.out | apply zG | apply zA | apply zD | refine zH ?_ GE346.out | refine zH ?_ GE347.out | refine zH ?_ GE352.out) | exact HB.out))) : w.heap.size ≤ gb353)); have n6_ := n5_; have n7_ := zC.mk ((by rw [hg]; exact Nat.ne_of_lt (zV (by (with_reducible repeat (first | refine zE ?_ _ | refine zI ?_ | refine zF ?_ _)); exact BK346.out)) : gb346 ≠ gb353)); have n8_ := zC.mk n7_.out.symm; have n9_ := zC.mk ((by rw [hg]; exact Nat.ne_of_lt (zV (by (with_reducible repeat (first | refine zE ?_ _ | refine zI ?_ | refine zF ?_ _)); exact BK347.out)) : gb347 ≠ gb353)); have n10_ := zC.mk n9_.out.symm; have n11_ := zC.mk ((by rw [hg]; exact Nat.ne_of_lt (zV (by (with_reducible repeat (first | refine zE ?_ _ | refine zI ?_ | refine zF ?_ _)); exact BK352.out)) : gb352 ≠ gb353)); have n12_ := zC.mk n11_.out.symm; clear BK346; clear BK347; clear BK352; clear HB; have BK346 := n0_; have BK347 := n1_; have BK352 := n2_; have HB := n3_; have BK353 := n4_; have GW353 := n5_; have GE353 := n6_; have NB346_353 := n7_; have NB353_346 := n8_; have NB347_353 := n9_; have NB353_347 := n10_; have NB352_353 := n11_; have NB353_352 := n12_; clear n0_ n1_ n2_ n3_ n4_ n5_ n6_ n7_ n8_ n9_ n10_ n11_ n12_; clear hb hbox hg; have hnb11 := NB352_346.out; have hnc11 := NB346_352.out; have hnb12 := NB352_347.out; have hnc12 := NB347_352.out; have hnb13 := NB352_353.out; have hnc13 := NB353_352.out; have hcz14_0 : w10.cell? ⟨gb352, 0, none⟩ = some (.int .i64 0) := zB BK352.out 0; have hcz14_1 : w10.cell? ⟨gb352, 1, none⟩ = some (.int .i64 0) := zB BK352.out 1; have hfz14_0 := zJ BK352.out 0; have hfz14_1 := zJ BK352.out 1; have hnb15 := NB353_346.out; have hnc15 := NB346_353.out; have hnb16 := NB353_347.out; have hnc16 := NB347_353.out; have hcz17_0 : w10.cell? ⟨gb353, 0, none⟩ = some (.int .i64 0) := zB BK353.out 0; have hcz17_1 : w10.cell? ⟨gb353, 1, none⟩ = some (.int .i64 0) := zB BK353.out 1; have hfz17_0 := zJ BK353.out 0; have hfz17_1 := zJ BK353.out 1) | ((with_reducible refine zP (N := 16) rfl ?_); refine Kd.R_lit k50 _ 50 ?hg (N := 16) ?hd (xs := ([(⟨t348, t349⟩ : S50), (⟨t350, t351⟩ : S50)] : List (S50))) (inner := [.int .i64 t348, .int .i64 t349, .int .i64 t350, .int .i64 t351]) (ok := fun _ => True) (okp := fun _ => True) ?hr ?hp (fun _ hk => hk) trivial (Below.refl _ _) (Nat.le_refl _) (by simp) ?_; (case hd => rfl); (case hg => rfl); (case hr => first | (go_simp; done) | (go_simp; rfl)); (case hp => exact (Reps.c2 (show Kd.M k50 _ _ _ (⟨t348, t349⟩ : S50) [.int .i64 t348, .int .i64 t349] from (k50_mkM _ _ _ (⟨t348, t349⟩ : S50) )) (Reps.c2 (show Kd.M k50 _ _ _ (⟨t350, t351⟩ : S50) [.int .i64 t350, .int .i64 t351] from (k50_mkM _ _ _ (⟨t350, t351⟩ : S50) )) (Reps.none _ _)))); intro v355 w18 ho19 hb hg_ hnew_; clear hg_ hnew_; (first | rw [← Ny354.out] at ho19 | (simp only [Int.reduceToNat] at ho19; rw [← Ny354.out] at ho19)); have n0_ := zC.mk (Kd.R_lower (Kd.R_newB (Kd.R_newB ho19 (g := gb352) (o := .cells #[.int .i64 t348, .int .i64 t349] 50 (0, 0)) (by (with_reducible repeat (first | refine zE ?_ _ | refine zI ?_ | refine zF ?_ _)); refine zU ?_ NB352_353.out _; (with_reducible repeat (first | refine zE ?_ _ | refine zI ?_ | refine zF ?_ _)); refine zU ?_ NB352_353.out _; (with_reducible repeat (first | refine zE ?_ _ | refine zI ?_ | refine zF ?_ _)); refine zS (cs := #[.int .i64 t348, .int .i64 0]) ?_ 1 _ rfl; (with_reducible repeat (first | refine zE ?_ _ | refine zI ?_ | refine zF ?_ _)); refine zS (cs := #[.int .i64 0, .int .i64 0]) ?_ 0 _ rfl; (with_reducible repeat (first | refine zE ?_ _ | refine zI ?_ | refine zF ?_ _)); exact BK352.out)) (g := gb353) (o := .cells #[.int .i64 t350, .int .i64 t351] 50 (0, 0)) (by (with_reducible repeat (first | refine zE ?_ _ | refine zI ?_ | refine zF ?_ _)); refine zS (cs := #[.int .i64 t350, .int .i64 0]) ?_ 1 _ rfl; (with_reducible repeat (first | refine zE ?_ _ | refine zI ?_ | refine zF ?_ _)); refine zS (cs := #[.int .i64 0, .int .i64 0]) ?_ 0 _ rfl; (with_reducible repeat (first | refine zE ?_ _ | refine zI ?_ | refine zF ?_ _)); refine zU ?_ NB353_352.out _; (with_reducible repeat (first | refine zE ?_ _ | refine zI ?_ | refine zF ?_ _)); refine zU ?_ NB353_352.out _; (with_reducible repeat (first | refine zE ?_ _ | refine zI ?_ | refine zF ?_ _)); exact BK353.out)) (zM (by repeat (first | (with_reducible first | exact HB.out | apply zG | apply zA | apply zD | refine zH ?_ GE346.out | refine zH ?_ GE347.out | refine zH ?_ GE352.out | refine zH ?_ GE353.out) | exact HB.out)))); have n1_ := zC.mk (zK (g := gb346) (o := .cells #[.int .i64 a0_0, .int .i64 a0_1, .int .i64 a0_2, .int .i64 a0_3, .slice A0_4 l0_4.length c0_4] 32 (0, 0)) (by (with_reducible repeat (first | refine zE ?_ _ | refine zI ?_ | refine zF ?_ _)); refine zU ?_ NB346_353.out _; (with_reducible repeat (first | refine zE ?_ _ | refine zI ?_ | refine zF ?_ _)); refine zU ?_ NB346_353.out _; (with_reducible repeat (first | refine zE ?_ _ | refine zI ?_ | refine zF ?_ _)); refine zU ?_ NB346_352.out _; (with_reducible repeat (first | refine zE ?_ _ | refine zI ?_ | refine zF ?_ _)); refine zU ?_ NB346_352.out _; (with_reducible repeat (first | refine zE ?_ _ | refine zI ?_ | refine zF ?_ _)); exact BK346.out) hb); have n2_ := zC.mk (zK (g := gb347) (o := .cells #[.int .i64 0, .int .i64 0, .int .i64 0] 30 (0, 0)) (by (with_reducible repeat (first | refine zE ?_ _ | refine zI ?_ | refine zF ?_ _)); refine zU ?_ NB347_353.out _; (with_reducible repeat (first | refine zE ?_ _ | refine zI ?_ | refine zF ?_ _)); refine zU ?_ NB347_353.out _; (with_reducible repeat (first | refine zE ?_ _ | refine zI ?_ | refine zF ?_ _)); refine zU ?_ NB347_352.out _; (with_reducible repeat (first | refine zE ?_ _ | refine zI ?_ | refine zF ?_ _)); refine zU ?_ NB347_352.out _; (with_reducible repeat (first | refine zE ?_ _ | refine zI ?_ | refine zF ?_ _)); exact BK347.out) hb); have n3_ := zC.mk (zK (g := gb352) (o := .cells #[.int .i64 t348, .int .i64 t349] 50 (0, 0)) (by (with_reducible repeat (first | refine zE ?_ _ | refine zI ?_ | refine zF ?_ _)); refine zU ?_ NB352_353.out _; (with_reducible repeat (first | refine zE ?_ _ | refine zI ?_ | refine zF ?_ _)); refine zU ?_ NB352_353.out _; (with_reducible repeat (first | refine zE ?_ _ | refine zI ?_ | refine zF ?_ _)); refine zS (cs := #[.int .i64 t348, .int .i64 0]) ?_ 1 _ rfl; (with_reducible repeat (first | refine zE ?_ _ | refine zI ?_ | refine zF ?_ _)); refine zS (cs := #[.int .i64 0, .int .i64 0]) ?_ 0 _ rfl; (with_reducible repeat (first | refine zE ?_ _ | refine zI ?_ | refine zF ?_ _)); exact BK352.out) hb); have n4_ := zC.mk (zK (g := gb353) (o := .cells #[.int .i64 t350, .int .i64 t351] 50 (0, 0)) (by (with_reducible repeat (first | refine zE ?_ _ | refine zI ?_ | refine zF ?_ _)); refine zS (cs := #[.int .i64 t350, .int .i64 0]) ?_ 1 _ rfl; (with_reducible repeat (first | refine zE ?_ _ | refine zI ?_ | refine zF ?_ _)); refine zS (cs := #[.int .i64 0, .int .i64 0]) ?_ 0 _ rfl; (with_reducible repeat (first | refine zE ?_ _ | refine zI ?_ | refine zF ?_ _)); refine zU ?_ NB353_352.out _; (with_reducible repeat (first | refine zE ?_ _ | refine zI ?_ | refine zF ?_ _)); refine zU ?_ NB353_352.out _; (with_reducible repeat (first | refine zE ?_ _ | refine zI ?_ | refine zF ?_ _)); exact BK353.out) hb); have n5_ := zC.mk (zL (by repeat (first | (with_reducible first | exact HB.out | apply zG | apply zA | apply zD | refine zH ?_ GE346.out | refine zH ?_ GE347.out | refine zH ?_ GE352.out | refine zH ?_ GE353.out) | exact HB.out)) hb); clear BK346; clear BK347; clear BK352; clear BK353; clear HB; have HO356 := n0_; have BK346 := n1_; have BK347 := n2_; have BK352 := n3_; have BK353 := n4_; have HB := n5_; clear n0_ n1_ n2_ n3_ n4_ n5_; clear hb ho19; have hcz20_0 : w18.cell? ⟨gb346, 0, none⟩ = some (.int .i64 a0_0) := zB BK346.out 0; have hcz20_1 : w18.cell? ⟨gb346, 1, none⟩ = some (.int .i64 a0_1) := zB BK346.out 1; have hcz20_2 : w18.cell? ⟨gb346, 2, none⟩ = some (.int .i64 a0_2) := zB BK346.out 2; have hcz20_3 : w18.cell? ⟨gb346, 3, none⟩ = some (.int .i64 a0_3) := zB BK346.out 3; have hcz20_4 : w18.cell? ⟨gb346, 4, none⟩ = some (.slice A0_4 l0_4.length c0_4) := zB BK346.out 4; have hfz20_0 := zJ BK346.out 0; have hfz20_1 := zJ BK346.out 1; have hfz20_2 := zJ BK346.out 2; have hfz20_3 := zJ BK346.out 3; have hfz20_4 := zJ BK346.out 4) | ((with_reducible refine zQ (f := 68) rfl ?_); refine zX (some 19) rfl rfl Try.func68 (by kernel_rfl) rfl #[.agg #[.int .i64 a0_1, .int .i64 a0_2, .int .i64 a0_3]] rfl (by (try simp only [List.map_toArray, List.map_cons, List.map_nil]); first | done | rfl) ?_; (with_reducible refine (yG.calls k a0_1 a0_2 a0_3 t357 _ A3.out).mono ?_); rintro e w21 ⟨v358, rfl, ho0, hb⟩; refine ⟨_, rfl, ?_⟩; have n0_ := zC.mk (Kd.R_elder' (by (with_reducible repeat (first | apply Kd.R_alloc | apply Kd.R_drewN | apply Kd.R_drew)); exact HO356.out) (Kd.R_base ho0) hb); have n1_ := zC.mk (Kd.R_lower (Kd.R_newB (Kd.R_newB (Kd.R_new' ho0 (Kd.R_lt (by (with_reducible repeat (first | apply Kd.R_alloc | apply Kd.R_drewN | apply Kd.R_drew)); exact HO356.out))) (g := gb352) (o := .cells #[.int .i64 t348, .int .i64 t349] 50 (0, 0)) (by (with_reducible repeat (first | refine zE ?_ _ | refine zI ?_ | refine zF ?_ _)); exact BK352.out)) (g := gb353) (o := .cells #[.int .i64 t350, .int .i64 t351] 50 (0, 0)) (by (with_reducible repeat (first | refine zE ?_ _ | refine zI ?_ | refine zF ?_ _)); exact BK353.out)) (zM (by repeat (first | (with_reducible first | exact HB.out | apply zG | apply zA | apply zD | refine zH ?_ GE346.out | refine zH ?_ GE347.out | refine zH ?_ GE352.out | refine zH ?_ GE353.out) | exact HB.out)))); have n2_ := zC.mk (zK (g := gb346) (o := .cells #[.int .i64 a0_0, .int .i64 a0_1, .int .i64 a0_2, .int .i64 a0_3, .slice A0_4 l0_4.length c0_4] 32 (0, 0)) (by (with_reducible repeat (first | refine zE ?_ _ | refine zI ?_ | refine zF ?_ _)); exact BK346.out) hb); have n3_ := zC.mk (zK (g := gb347) (o := .cells #[.int .i64 0, .int .i64 0, .int .i64 0] 30 (0, 0)) (by (with_reducible repeat (first | refine zE ?_ _ | refine zI ?_ | refine zF ?_ _)); exact BK347.out) hb); have n4_ := zC.mk (zK (g := gb352) (o := .cells #[.int .i64 t348, .int .i64 t349] 50 (0, 0)) (by (with_reducible repeat (first | refine zE ?_ _ | refine zI ?_ | refine zF ?_ _)); exact BK352.out) hb); have n5_ := zC.mk (zK (g := gb353) (o := .cells #[.int .i64 t350, .int .i64 t351] 50 (0, 0)) (by (with_reducible repeat (first | refine zE ?_ _ | refine zI ?_ | refine zF ?_ _)); exact BK353.out) hb); have n6_ := zC.mk (zL (by repeat (first | (with_reducible first | exact HB.out | apply zG | apply zA | apply zD | refine zH ?_ GE346.out | refine zH ?_ GE347.out | refine zH ?_ GE352.out | refine zH ?_ GE353.out) | exact HB.out)) hb); clear HO356; clear BK346; clear BK347; clear BK352; clear BK353; clear HB; have HO356 := n0_; have HO359 := n1_; have BK346 := n2_; have BK347 := n3_; have BK352 := n4_; have BK353 := n5_; have HB := n6_; clear n0_ n1_ n2_ n3_ n4_ n5_ n6_; (try clear hb); (try clear ho0); obtain ⟨Ao22, co22, eo22⟩ := Kd.R_slice HO359.out; subst eo22))
 go_loopg [5, 21] k (fun kq v5 v21 w' => ∃ (x5_1 : List (S50)) (x21_1 : Int), v21 = .int .i64 x21_1 ∧ zC (yH.l0 kq x5_1 t357 (t357.length : Int) x21_1 a0_0 a0_1 a0_2 a0_3 l0_4 = some (r1, r2, r3)) ∧ zC (kq ≤ k) ∧ zC (Kd.R k50 50 w' w.heap.size (fun k_ => some k_ ≠ ((.slice Ao22 t357.length co22) : Value).ownBlock ∧ k_ ≠ gb352 ∧ k_ ≠ gb353) v5 x5_1) ∧ zC (Kd.R k50 50 w' w.heap.size (fun k_ => some k_ ≠ (v5 : Value).ownBlock ∧ k_ ≠ gb352 ∧ k_ ≠ gb353) (.slice Ao22 t357.length co22) t357) ∧ zC (w'.heap[gb346]? = some (.cells #[.int .i64 a0_0, .int .i64 a0_1, .int .i64 a0_2, .int .i64 a0_3, (.slice A0_4 l0_4.length c0_4)] 32 (0, 0))) ∧ zC (w'.heap[gb347]? = some (.cells #[.int .i64 0, .int .i64 0, .int .i64 0] 30 (0, 0))) ∧ zC (w'.heap[gb352]? = some (.cells #[.int .i64 t348, .int .i64 t349] 50 (0, 0))) ∧ zC (w'.heap[gb353]? = some (.cells #[.int .i64 t350, .int .i64 t351] 50 (0, 0))) ∧ zC (Below w.heap.size w w'))
 case atStart => exact ⟨(y354), (0), (by first | rfl | (simp; done) | (simp [*]; done)), H', ⟨Nat.le_refl _⟩, ⟨by (with_reducible repeat (first | apply Kd.R_alloc | apply Kd.R_drewN | apply Kd.R_drew)); exact Kd.R_mono HO356.out (fun _ hk => ⟨hk.2, ⟨hk.1.1.2, hk.1.2⟩⟩)⟩, ⟨by (with_reducible repeat (first | apply Kd.R_alloc | apply Kd.R_drewN | apply Kd.R_drew)); exact Kd.R_mono HO359.out (fun _ hk => ⟨hk.1.1.2, ⟨hk.1.2, hk.2⟩⟩)⟩, ⟨by (with_reducible repeat (first | refine zE ?_ _ | refine zI ?_ | refine zF ?_ _)); exact BK346.out⟩, ⟨by (with_reducible repeat (first | refine zE ?_ _ | refine zI ?_ | refine zF ?_ _)); exact BK347.out⟩, ⟨by (with_reducible repeat (first | refine zE ?_ _ | refine zI ?_ | refine zF ?_ _)); exact BK352.out⟩, ⟨by (with_reducible repeat (first | refine zE ?_ _ | refine zI ?_ | refine zF ?_ _)); exact BK353.out⟩, ⟨by repeat (first | (with_reducible first | exact HB.out | apply zG | apply zA | apply zD | refine zH ?_ GE346.out | refine zH ?_ GE347.out | refine zH ?_ GE352.out | refine zH ?_ GE353.out) | exact HB.out)⟩⟩
 case round =>
  clear H'
  try clear c1
  try clear c2
  try clear p2
  try clear c6
  try clear c11
  try clear c12
  try clear c13
  try clear c14
  try clear c15
  try clear c16
  try clear hcz14_0
  try clear hcz14_1
  try clear hcz17_0
  try clear hcz17_1
  try clear hcz20_0
  try clear hcz20_1
  try clear hcz20_2
  try clear hcz20_3
  try clear hcz20_4
  try clear hcz7_0
  try clear hcz7_1
  try clear hcz7_2
  try clear hcz7_3
  try clear hcz7_4
  try clear hfz14_0
  try clear hfz14_1
  try clear hfz17_0
  try clear hfz17_1
  try clear hfz20_0
  try clear hfz20_1
  try clear hfz20_2
  try clear hfz20_3
  try clear hfz20_4
  try clear hfz7_0
  try clear hfz7_1
  try clear hfz7_2
  try clear hfz7_3
  try clear hfz7_4
  obtain ⟨x5_1, x21_1, rfl, HA, HK1, HO_5, HO_19, BK346, BK347, BK352, BK353, HB⟩ := hrel
  cases gk with
  | zero => exact absurd HA.out (by simp [yH.l0])
  | succ k1 =>
   have H := HA.out
   clear HA
   simp only [yH.l0] at H
   by_cases c23 : x21_1 < (t357.length : Int)
   ·
    rw [if_pos c23] at H
    have c23b0 : decide (x21_1 < (t357.length : Int)) = true := decide_eq_true c23
    clear c23
    by_cases c24 : 0 ≤ x21_1
    ·
     rw [if_pos c24] at H
     have c24b0 : decide (0 ≤ x21_1) = true := decide_eq_true c24
     clear c24
     by_cases c25 : x21_1 < (t357.length : Int)
     ·
      rw [if_pos c25] at H
      have c25b0 : decide (x21_1 < (t357.length : Int)) = true := decide_eq_true c25
      clear c25
      replace H := Option.bind_eq_some_iff.mp H
      obtain ⟨⟨t365, t366, t367, t368⟩, A260, H⟩ := H
      replace H : ((yL.f k1 a0_0 a0_1 a0_2 a0_3 l0_4 t365 t366 t367 t368 ((rd_T50 t357 x21_1).f0) ((rd_T50 t357 x21_1).f1)).bind fun t369 => (if t369 = true then (if x5_1.length < 8796093022208 then (yH.l0 k1 (x5_1 ++ [(⟨(rd_T50 t357 x21_1).f0, (rd_T50 t357 x21_1).f1⟩ : S50)]) t357 (t357.length : Int) (wrap64 (x21_1 + 1)) a0_0 a0_1 a0_2 a0_3 l0_4) else (none)) else (yH.l0 k1 x5_1 t357 (t357.length : Int) (wrap64 (x21_1 + 1)) a0_0 a0_1 a0_2 a0_3 l0_4))) = some (r1, r2, r3) := H
      have A26 := zC.mk A260
      clear A260
      replace H := Option.bind_eq_some_iff.mp H
      obtain ⟨t369, A270, H⟩ := H
      replace H : (if t369 = true then (if x5_1.length < 8796093022208 then (yH.l0 k1 (x5_1 ++ [(⟨(rd_T50 t357 x21_1).f0, (rd_T50 t357 x21_1).f1⟩ : S50)]) t357 (t357.length : Int) (wrap64 (x21_1 + 1)) a0_0 a0_1 a0_2 a0_3 l0_4) else (none)) else (yH.l0 k1 x5_1 t357 (t357.length : Int) (wrap64 (x21_1 + 1)) a0_0 a0_1 a0_2 a0_3 l0_4)) = some (r1, r2, r3) := H
      have A27 := zC.mk A270
      clear A270
      have HX28 := zC.mk H
      clear H
      have p363 : 0 ≤ (x21_1 : Int) := of_decide_eq_true (by first | (with_reducible assumption) | assumption)
      have q363 : x21_1 < (t357.length : Int) := of_decide_eq_true (by first | (with_reducible assumption) | assumption)
      obtain ⟨ad363, e363, hx363_0, hx363_1⟩ := at_T50 (Kd.R_reads' HO_19.out).2.2 x21_1 p363 q363
      cases e363
      replace p363 := eq_true p363
      replace q363 := eq_true q363
      try go_wp2_with (first | ((with_reducible refine zP (N := 7) rfl ?_); refine zN ?hg (N := 7) ?hd (cs := #[.int .i64 0, .int .i64 0]) (t := 50) ?hr ?_; (case hd => rfl); (case hg => rfl); (case hr => first | (go_simp; done) | (go_simp; rfl)); intro gb364 hg w29 hbox hb; have n0_ := zC.mk (Kd.R_below (Kd.R_elderB (by (with_reducible repeat (first | apply Kd.R_alloc | apply Kd.R_drewN | apply Kd.R_drew)); exact HO_5.out) gb364 (Nat.le_of_eq hg.symm)) hb); have n1_ := zC.mk (Kd.R_below (Kd.R_elderB (by (with_reducible repeat (first | apply Kd.R_alloc | apply Kd.R_drewN | apply Kd.R_drew)); exact HO_19.out) gb364 (Nat.le_of_eq hg.symm)) hb); have n2_ := zC.mk (zK (g := gb346) (o := .cells #[.int .i64 a0_0, .int .i64 a0_1, .int .i64 a0_2, .int .i64 a0_3, .slice A0_4 l0_4.length c0_4] 32 (0, 0)) (by (with_reducible repeat (first | refine zE ?_ _ | refine zI ?_ | refine zF ?_ _)); exact BK346.out) hb); have n3_ := zC.mk (zK (g := gb347) (o := .cells #[.int .i64 0, .int .i64 0, .int .i64 0] 30 (0, 0)) (by (with_reducible repeat (first | refine zE ?_ _ | refine zI ?_ | refine zF ?_ _)); exact BK347.out) hb); have n4_ := zC.mk (zK (g := gb352) (o := .cells #[.int .i64 t348, .int .i64 t349] 50 (0, 0)) (by (with_reducible repeat (first | refine zE ?_ _ | refine zI ?_ | refine zF ?_ _)); exact BK352.out) hb); have n5_ := zC.mk (zK (g := gb353) (o := .cells #[.int .i64 t350, .int .i64 t351] 50 (0, 0)) (by (with_reducible repeat (first | refine zE ?_ _ | refine zI ?_ | refine zF ?_ _)); exact BK353.out) hb); have n6_ := zC.mk (zL (by repeat (first | (with_reducible first | exact HB.out | apply zG | apply zA | apply zD | refine zH ?_ GE346.out | refine zH ?_ GE347.out | refine zH ?_ GE352.out | refine zH ?_ GE353.out) | exact HB.out)) hb); have n7_ := zC.mk (hbox); have n8_ := zC.mk ((by rw [hg]; exact (zM (by repeat (first | (with_reducible first | exact HB.out | apply zG | apply zA | apply zD | refine zH ?_ GE346.out | refine zH ?_ GE347.out | refine zH ?_ GE352.out | refine zH ?_ GE353.out) | exact HB.out))) : w.heap.size ≤ gb364)); have n9_ := n8_; have n10_ := zC.mk ((by rw [hg]; exact Nat.ne_of_lt (zV (by (with_reducible repeat (first | refine zE ?_ _ | refine zI ?_ | refine zF ?_ _)); exact BK346.out)) : gb346 ≠ gb364)); have n11_ := zC.mk n10_.out.symm; have n12_ := zC.mk ((by rw [hg]; exact Nat.ne_of_lt (zV (by (with_reducible repeat (first | refine zE ?_ _ | refine zI ?_ | refine zF ?_ _)); exact BK347.out)) : gb347 ≠ gb364)); have n13_ := zC.mk n12_.out.symm; have n14_ := zC.mk ((by rw [hg]; exact Nat.ne_of_lt (zV (by (with_reducible repeat (first | refine zE ?_ _ | refine zI ?_ | refine zF ?_ _)); exact BK352.out)) : gb352 ≠ gb364)); have n15_ := zC.mk n14_.out.symm; have n16_ := zC.mk ((by rw [hg]; exact Nat.ne_of_lt (zV (by (with_reducible repeat (first | refine zE ?_ _ | refine zI ?_ | refine zF ?_ _)); exact BK353.out)) : gb353 ≠ gb364)); have n17_ := zC.mk n16_.out.symm; clear HO_5; clear HO_19; clear BK346; clear BK347; clear BK352; clear BK353; clear HB; have HO_5 := n0_; have HO_19 := n1_; have BK346 := n2_; have BK347 := n3_; have BK352 := n4_; have BK353 := n5_; have HB := n6_; have BK364 := n7_; have GW364 := n8_; have GE364 := n9_; have NB346_364 := n10_; have NB364_346 := n11_; have NB347_364 := n12_; have NB364_347 := n13_; have NB352_364 := n14_; have NB364_352 := n15_; have NB353_364 := n16_; have NB364_353 := n17_; clear n0_ n1_ n2_ n3_ n4_ n5_ n6_ n7_ n8_ n9_ n10_ n11_ n12_ n13_ n14_ n15_ n16_ n17_; clear hb hbox hg; have hnb30 := NB364_346.out; have hnc30 := NB346_364.out; have hnb31 := NB364_347.out; have hnc31 := NB347_364.out; have hnb32 := NB364_352.out; have hnc32 := NB352_364.out; have hnb33 := NB364_353.out; have hnc33 := NB353_364.out; have hcz34_0 : w29.cell? ⟨gb364, 0, none⟩ = some (.int .i64 0) := zB BK364.out 0; have hcz34_1 : w29.cell? ⟨gb364, 1, none⟩ = some (.int .i64 0) := zB BK364.out 1; have hfz34_0 := zJ BK364.out 0; have hfz34_1 := zJ BK364.out 1))
      have n0_ : zC (Kd.R k50 50 ((w29.setCell ⟨gb364, 0, none⟩ (.int .i64 ((rd_T50 t357 x21_1).f0))).setCell ⟨gb364, 1, none⟩ (.int .i64 ((rd_T50 t357 x21_1).f1))) w.heap.size (fun k_ => some k_ ≠ (.slice (some ad363) t357.length co22 : Value).ownBlock ∧ k_ ≠ gb352 ∧ k_ ≠ gb353 ∧ k_ ≠ gb364) u5 x5_1) := ⟨by (with_reducible repeat (first | apply Kd.R_alloc | apply Kd.R_drewN | apply Kd.R_drew)); exact Kd.R_mono (Kd.R_far (p := ⟨gb364, 1, none⟩) (Kd.R_far (p := ⟨gb364, 0, none⟩) (Kd.R_mono HO_5.out (fun k_ hk => (⟨hk, hk.2⟩ : _ ∧ k_ ≠ gb364))) (fun _ hk => hk.2) (.int .i64 ((rd_T50 t357 x21_1).f0))) (fun _ hk => hk.2) (.int .i64 ((rd_T50 t357 x21_1).f1))) (fun _ hk => ⟨hk.1.1.1, ⟨hk.1.1.2.1, ⟨hk.1.1.2.2, hk.1.2⟩⟩⟩)⟩
      have n1_ : zC (Kd.R k50 50 ((w29.setCell ⟨gb364, 0, none⟩ (.int .i64 ((rd_T50 t357 x21_1).f0))).setCell ⟨gb364, 1, none⟩ (.int .i64 ((rd_T50 t357 x21_1).f1))) w.heap.size (fun k_ => some k_ ≠ (u5 : Value).ownBlock ∧ k_ ≠ gb352 ∧ k_ ≠ gb353 ∧ k_ ≠ gb364) (.slice (some ad363) t357.length co22) t357) := ⟨by (with_reducible repeat (first | apply Kd.R_alloc | apply Kd.R_drewN | apply Kd.R_drew)); exact Kd.R_mono (Kd.R_far (p := ⟨gb364, 1, none⟩) (Kd.R_far (p := ⟨gb364, 0, none⟩) (Kd.R_mono HO_19.out (fun k_ hk => (⟨hk, hk.2⟩ : _ ∧ k_ ≠ gb364))) (fun _ hk => hk.2) (.int .i64 ((rd_T50 t357 x21_1).f0))) (fun _ hk => hk.2) (.int .i64 ((rd_T50 t357 x21_1).f1))) (fun _ hk => ⟨hk.1.1.1, ⟨hk.1.1.2.1, ⟨hk.1.1.2.2, hk.1.2⟩⟩⟩)⟩
      have n2_ : zC (((w29.setCell ⟨gb364, 0, none⟩ (.int .i64 ((rd_T50 t357 x21_1).f0))).setCell ⟨gb364, 1, none⟩ (.int .i64 ((rd_T50 t357 x21_1).f1))).heap[gb346]? = some (.cells #[.int .i64 a0_0, .int .i64 a0_1, .int .i64 a0_2, .int .i64 a0_3, .slice A0_4 l0_4.length c0_4] 32 (0, 0))) := ⟨by (with_reducible repeat (first | refine zE ?_ _ | refine zI ?_ | refine zF ?_ _)); refine zU ?_ NB346_364.out _; (with_reducible repeat (first | refine zE ?_ _ | refine zI ?_ | refine zF ?_ _)); refine zU ?_ NB346_364.out _; (with_reducible repeat (first | refine zE ?_ _ | refine zI ?_ | refine zF ?_ _)); exact BK346.out⟩
      have n3_ : zC (((w29.setCell ⟨gb364, 0, none⟩ (.int .i64 ((rd_T50 t357 x21_1).f0))).setCell ⟨gb364, 1, none⟩ (.int .i64 ((rd_T50 t357 x21_1).f1))).heap[gb347]? = some (.cells #[.int .i64 0, .int .i64 0, .int .i64 0] 30 (0, 0))) := ⟨by (with_reducible repeat (first | refine zE ?_ _ | refine zI ?_ | refine zF ?_ _)); refine zU ?_ NB347_364.out _; (with_reducible repeat (first | refine zE ?_ _ | refine zI ?_ | refine zF ?_ _)); refine zU ?_ NB347_364.out _; (with_reducible repeat (first | refine zE ?_ _ | refine zI ?_ | refine zF ?_ _)); exact BK347.out⟩
      have n4_ : zC (((w29.setCell ⟨gb364, 0, none⟩ (.int .i64 ((rd_T50 t357 x21_1).f0))).setCell ⟨gb364, 1, none⟩ (.int .i64 ((rd_T50 t357 x21_1).f1))).heap[gb352]? = some (.cells #[.int .i64 t348, .int .i64 t349] 50 (0, 0))) := ⟨by (with_reducible repeat (first | refine zE ?_ _ | refine zI ?_ | refine zF ?_ _)); refine zU ?_ NB352_364.out _; (with_reducible repeat (first | refine zE ?_ _ | refine zI ?_ | refine zF ?_ _)); refine zU ?_ NB352_364.out _; (with_reducible repeat (first | refine zE ?_ _ | refine zI ?_ | refine zF ?_ _)); exact BK352.out⟩
      have n5_ : zC (((w29.setCell ⟨gb364, 0, none⟩ (.int .i64 ((rd_T50 t357 x21_1).f0))).setCell ⟨gb364, 1, none⟩ (.int .i64 ((rd_T50 t357 x21_1).f1))).heap[gb353]? = some (.cells #[.int .i64 t350, .int .i64 t351] 50 (0, 0))) := ⟨by (with_reducible repeat (first | refine zE ?_ _ | refine zI ?_ | refine zF ?_ _)); refine zU ?_ NB353_364.out _; (with_reducible repeat (first | refine zE ?_ _ | refine zI ?_ | refine zF ?_ _)); refine zU ?_ NB353_364.out _; (with_reducible repeat (first | refine zE ?_ _ | refine zI ?_ | refine zF ?_ _)); exact BK353.out⟩
      have n6_ : zC (((w29.setCell ⟨gb364, 0, none⟩ (.int .i64 ((rd_T50 t357 x21_1).f0))).setCell ⟨gb364, 1, none⟩ (.int .i64 ((rd_T50 t357 x21_1).f1))).heap[gb364]? = some (.cells #[.int .i64 ((rd_T50 t357 x21_1).f0), .int .i64 ((rd_T50 t357 x21_1).f1)] 50 (0, 0))) := ⟨by (with_reducible repeat (first | refine zE ?_ _ | refine zI ?_ | refine zF ?_ _)); refine zS (cs := #[.int .i64 ((rd_T50 t357 x21_1).f0), .int .i64 0]) ?_ 1 _ rfl; (with_reducible repeat (first | refine zE ?_ _ | refine zI ?_ | refine zF ?_ _)); refine zS (cs := #[.int .i64 0, .int .i64 0]) ?_ 0 _ rfl; (with_reducible repeat (first | refine zE ?_ _ | refine zI ?_ | refine zF ?_ _)); exact BK364.out⟩
      have n7_ : zC (Below w.heap.size w ((w29.setCell ⟨gb364, 0, none⟩ (.int .i64 ((rd_T50 t357 x21_1).f0))).setCell ⟨gb364, 1, none⟩ (.int .i64 ((rd_T50 t357 x21_1).f1)))) := ⟨by repeat (first | (with_reducible first | exact HB.out | apply zG | apply zA | apply zD | refine zH ?_ GE346.out | refine zH ?_ GE347.out | refine zH ?_ GE352.out | refine zH ?_ GE353.out | refine zH ?_ GE364.out) | exact HB.out)⟩
      (try clear HO_5)
      (try clear HO_19)
      (try clear BK346)
      (try clear BK347)
      (try clear BK352)
      (try clear BK353)
      (try clear BK364)
      (try clear HB)
      generalize ((w29.setCell ⟨gb364, 0, none⟩ (.int .i64 ((rd_T50 t357 x21_1).f0))).setCell ⟨gb364, 1, none⟩ (.int .i64 ((rd_T50 t357 x21_1).f1))) = w35 at n0_ n1_ n2_ n3_ n4_ n5_ n6_ n7_ ⊢
      have HO_5 := n0_
      have HO_19 := n1_
      have BK346 := n2_
      have BK347 := n3_
      have BK352 := n4_
      have BK353 := n5_
      have BK364 := n6_
      have HB := n7_
      clear n0_ n1_ n2_ n3_ n4_ n5_ n6_ n7_
      have n0_ := zC.mk (Kd.R_drew HO_5.out)
      have n1_ := zC.mk (Kd.R_drew HO_19.out)
      have n2_ := zC.mk (zI BK346.out)
      have n3_ := zC.mk (zI BK347.out)
      have n4_ := zC.mk (zI BK352.out)
      have n5_ := zC.mk (zI BK353.out)
      have n6_ := zC.mk (zI BK364.out)
      have n7_ := zC.mk (zD HB.out)
      clear HO_5
      clear HO_19
      clear BK346
      clear BK347
      clear BK352
      clear BK353
      clear BK364
      clear HB
      have HO_5 := n0_
      have HO_19 := n1_
      have BK346 := n2_
      have BK347 := n3_
      have BK352 := n4_
      have BK353 := n5_
      have BK364 := n6_
      have HB := n7_
      clear n0_ n1_ n2_ n3_ n4_ n5_ n6_ n7_
      refine start_ (n := 5) (S := fun w' => w'.cell? ⟨gb346, 0, none⟩ = some (.int .i64 a0_0) ∧ w'.cell? ⟨gb346, 1, none⟩ = some (.int .i64 a0_1) ∧ w'.cell? ⟨gb346, 2, none⟩ = some (.int .i64 a0_2) ∧ w'.cell? ⟨gb346, 3, none⟩ = some (.int .i64 a0_3) ∧ w'.cell? ⟨gb346, 4, none⟩ = some (.slice A0_4 l0_4.length c0_4) ∧ w'.cell? ⟨gb364, 0, none⟩ = some (.int .i64 ((rd_T50 t357 x21_1).f0)) ∧ w'.cell? ⟨gb364, 1, none⟩ = some (.int .i64 ((rd_T50 t357 x21_1).f1))) (ds := []) #[false, false, false, false, false] (by kernel_rfl) rfl rfl ⟨zB BK346.out 0, zB BK346.out 1, zB BK346.out 2, zB BK346.out 3, zB BK346.out 4, zB BK364.out 0, zB BK364.out 1⟩ (fun hHeld => ?_)
      generalize w35.drew = w36 at HO_5 HO_19 BK346 BK347 BK352 BK353 BK364 HB hHeld ⊢
      refine yC (i := 0) (N := some 25) (v := ?_) (a' := ?_) #[true, false, false, false, false] rfl rfl (by kernel_rfl) (fun _ _ _ h => h) (Or.inl ⟨by rfl, ?_⟩) hHeld ?_ ?_
      rotate_left
      ·
       rintro w' ⟨s0, s1, s2, s3, s4, s5, s6⟩
       go_simp
       with_reducible rfl
      rotate_left
      ·
       simp only [Act.put, List.setIfInBounds_toArray, List.set_cons_zero, List.set_cons_succ, zY, zZ]
       rfl
      refine yC (i := 2) (N := some 27) (v := ?_) (a' := ?_) #[true, false, true, false, false] rfl rfl (by kernel_rfl) (fun _ _ _ h => h) (Or.inl ⟨by rfl, ?_⟩) hHeld ?_ ?_
      rotate_left
      ·
       rintro w' ⟨s0, s1, s2, s3, s4, s5, s6⟩
       go_simp
       with_reducible rfl
      rotate_left
      ·
       simp only [Act.put, List.setIfInBounds_toArray, List.set_cons_zero, List.set_cons_succ, zY, zZ]
       rfl
      refine one_ (i := 1) (N := some 26) #[true, true, true, false, false] rfl rfl (by kernel_rfl) (by decide) (fun K hK => ?_)
      refine yD Try.func168 (by kernel_rfl) rfl #[] (by rfl) rfl rfl (by (try simp only [List.map_toArray, List.map_cons, List.map_nil]); first | done | rfl) ?_
      with_reducible refine (vA.calls  t365 t366 t367 t368 _ A26.out).mono ?_
      rintro e w37 ⟨rfl, hb⟩
      refine ⟨_, rfl, ?_⟩
      have n0_ := zC.mk (Kd.R_below (by (with_reducible repeat (first | apply Kd.R_alloc | apply Kd.R_drewN | apply Kd.R_drew)); exact HO_5.out) hb)
      have n1_ := zC.mk (Kd.R_below (by (with_reducible repeat (first | apply Kd.R_alloc | apply Kd.R_drewN | apply Kd.R_drew)); exact HO_19.out) hb)
      have n2_ := zC.mk (zK (g := gb346) (o := .cells #[.int .i64 a0_0, .int .i64 a0_1, .int .i64 a0_2, .int .i64 a0_3, .slice A0_4 l0_4.length c0_4] 32 (0, 0)) (by (with_reducible repeat (first | refine zE ?_ _ | refine zI ?_ | refine zF ?_ _)); exact BK346.out) hb)
      have n3_ := zC.mk (zK (g := gb347) (o := .cells #[.int .i64 0, .int .i64 0, .int .i64 0] 30 (0, 0)) (by (with_reducible repeat (first | refine zE ?_ _ | refine zI ?_ | refine zF ?_ _)); exact BK347.out) hb)
      have n4_ := zC.mk (zK (g := gb352) (o := .cells #[.int .i64 t348, .int .i64 t349] 50 (0, 0)) (by (with_reducible repeat (first | refine zE ?_ _ | refine zI ?_ | refine zF ?_ _)); exact BK352.out) hb)
      have n5_ := zC.mk (zK (g := gb353) (o := .cells #[.int .i64 t350, .int .i64 t351] 50 (0, 0)) (by (with_reducible repeat (first | refine zE ?_ _ | refine zI ?_ | refine zF ?_ _)); exact BK353.out) hb)
      have n6_ := zC.mk (zK (g := gb364) (o := .cells #[.int .i64 ((rd_T50 t357 x21_1).f0), .int .i64 ((rd_T50 t357 x21_1).f1)] 50 (0, 0)) (by (with_reducible repeat (first | refine zE ?_ _ | refine zI ?_ | refine zF ?_ _)); exact BK364.out) hb)
      have n7_ := zC.mk (zL (by repeat (first | (with_reducible first | exact HB.out | apply zG | apply zA | apply zD | refine zH ?_ GE346.out | refine zH ?_ GE347.out | refine zH ?_ GE352.out | refine zH ?_ GE353.out | refine zH ?_ GE364.out) | exact HB.out)) hb)
      clear HO_5
      clear HO_19
      clear BK346
      clear BK347
      clear BK352
      clear BK353
      clear BK364
      clear HB
      have HO_5 := n0_
      have HO_19 := n1_
      have BK346 := n2_
      have BK347 := n3_
      have BK352 := n4_
      have BK353 := n5_
      have BK364 := n6_
      have HB := n7_
      clear n0_ n1_ n2_ n3_ n4_ n5_ n6_ n7_
      (try clear hb)
      refine hK.out _ _ ⟨zB BK346.out 0, zB BK346.out 1, zB BK346.out 2, zB BK346.out 3, zB BK346.out 4, zB BK364.out 0, zB BK364.out 1⟩ (fun hHeld => ?_)
      clear hK K
      refine yA (a' := ?_) ?_ ?_
      rotate_left
      ·
       show Act.put _ (some 26) _ = _
       simp only [Act.put, List.setIfInBounds_toArray, List.set_cons_zero, List.set_cons_succ, zY, zZ]
       rfl
      refine zR (i := 3) (N := some 28) (v := ?_) (a' := ?_) #[true, true, true, true, false] rfl rfl (by kernel_rfl) (fun _ _ _ h => h) (Or.inl ⟨by rfl, ?_⟩) ?_ ?_
      rotate_left
      ·
       intro w'
       go_simp
       with_reducible rfl
      rotate_left
      ·
       simp only [Act.put, List.setIfInBounds_toArray, List.set_cons_zero, List.set_cons_succ, zY, zZ]
       rfl
      refine one_ (i := 4) (N := some 29) #[true, true, true, true, true] rfl rfl (by kernel_rfl) (by decide) (fun K hK => ?_)
      refine yD Try.func167 (by kernel_rfl) rfl #[.agg #[.int .i64 a0_0, .int .i64 a0_1, .int .i64 a0_2, .int .i64 a0_3, .slice A0_4 l0_4.length c0_4], .agg #[.int .i64 t365, .int .i64 t366, .int .i64 t367, .int .i64 t368, .int .i64 ((rd_T50 t357 x21_1).f0), .int .i64 ((rd_T50 t357 x21_1).f1)]] (by rfl) rfl rfl (by (try simp only [List.map_toArray, List.map_cons, List.map_nil]); first | done | rfl) ?_
      with_reducible refine (yL.calls k1 a0_0 a0_1 a0_2 a0_3 _ _ l0_4 t365 t366 t367 t368 ((rd_T50 t357 x21_1).f0) ((rd_T50 t357 x21_1).f1) t369 _ ?side1 ?side2 A27.out).mono ?_
      (case side1 => repeat (first | exact (Kd.C_below HR0_4.out HB.out) | (with_reducible refine Kd.C_alloc ?_ _) | (with_reducible refine Kd.C_drewN ?_ _) | (with_reducible refine Kd.C_drew ?_)))
      (case side2 => exact HC0_4.out)
      rintro e w38 ⟨rfl, hb⟩
      refine ⟨_, rfl, ?_⟩
      have n0_ := zC.mk (Kd.R_below (by (with_reducible repeat (first | apply Kd.R_alloc | apply Kd.R_drewN | apply Kd.R_drew)); exact HO_5.out) hb)
      have n1_ := zC.mk (Kd.R_below (by (with_reducible repeat (first | apply Kd.R_alloc | apply Kd.R_drewN | apply Kd.R_drew)); exact HO_19.out) hb)
      have n2_ := zC.mk (zK (g := gb346) (o := .cells #[.int .i64 a0_0, .int .i64 a0_1, .int .i64 a0_2, .int .i64 a0_3, .slice A0_4 l0_4.length c0_4] 32 (0, 0)) (by (with_reducible repeat (first | refine zE ?_ _ | refine zI ?_ | refine zF ?_ _)); exact BK346.out) hb)
      have n3_ := zC.mk (zK (g := gb347) (o := .cells #[.int .i64 0, .int .i64 0, .int .i64 0] 30 (0, 0)) (by (with_reducible repeat (first | refine zE ?_ _ | refine zI ?_ | refine zF ?_ _)); exact BK347.out) hb)
      have n4_ := zC.mk (zK (g := gb352) (o := .cells #[.int .i64 t348, .int .i64 t349] 50 (0, 0)) (by (with_reducible repeat (first | refine zE ?_ _ | refine zI ?_ | refine zF ?_ _)); exact BK352.out) hb)
      have n5_ := zC.mk (zK (g := gb353) (o := .cells #[.int .i64 t350, .int .i64 t351] 50 (0, 0)) (by (with_reducible repeat (first | refine zE ?_ _ | refine zI ?_ | refine zF ?_ _)); exact BK353.out) hb)
      have n6_ := zC.mk (zK (g := gb364) (o := .cells #[.int .i64 ((rd_T50 t357 x21_1).f0), .int .i64 ((rd_T50 t357 x21_1).f1)] 50 (0, 0)) (by (with_reducible repeat (first | refine zE ?_ _ | refine zI ?_ | refine zF ?_ _)); exact BK364.out) hb)
      have n7_ := zC.mk (zL (by repeat (first | (with_reducible first | exact HB.out | apply zG | apply zA | apply zD | refine zH ?_ GE346.out | refine zH ?_ GE347.out | refine zH ?_ GE352.out | refine zH ?_ GE353.out | refine zH ?_ GE364.out) | exact HB.out)) hb)
      clear HO_5
      clear HO_19
      clear BK346
      clear BK347
      clear BK352
      clear BK353
      clear BK364
      clear HB
      have HO_5 := n0_
      have HO_19 := n1_
      have BK346 := n2_
      have BK347 := n3_
      have BK352 := n4_
      have BK353 := n5_
      have BK364 := n6_
      have HB := n7_
      clear n0_ n1_ n2_ n3_ n4_ n5_ n6_ n7_
      (try clear hb)
      refine hK.out _ _ ⟨zB BK346.out 0, zB BK346.out 1, zB BK346.out 2, zB BK346.out 3, zB BK346.out 4, zB BK364.out 0, zB BK364.out 1⟩ (fun hHeld => ?_)
      clear hK K
      refine yA (a' := ?_) ?_ ?_
      rotate_left
      ·
       show Act.put _ (some 29) _ = _
       simp only [Act.put, List.setIfInBounds_toArray, List.set_cons_zero, List.set_cons_succ, zY, zZ]
       rfl
      refine done_ (by kernel_rfl) ?_
      go_upto_if 29 with (fail)
      have H := HX28.out
      clear HX28
      by_cases c39 : t369 = true
      ·
       subst c39
       have H1 : (if x5_1.length < 8796093022208 then (yH.l0 k1 (x5_1 ++ [(⟨(rd_T50 t357 x21_1).f0, (rd_T50 t357 x21_1).f1⟩ : S50)]) t357 (t357.length : Int) (wrap64 (x21_1 + 1)) a0_0 a0_1 a0_2 a0_3 l0_4) else (none)) = some (r1, r2, r3) := by rw [if_pos rfl] at H; exact H
       clear H
       have H := H1
       clear H1
       by_cases c40 : x5_1.length < 8796093022208
       ·
        rw [if_pos c40] at H
        have LMc40 := zC.mk c40
        clear c40
        obtain ⟨y370, hy370⟩ : ∃ y_ : List (S50), y_ = (x5_1 ++ [(⟨(rd_T50 t357 x21_1).f0, (rd_T50 t357 x21_1).f1⟩ : S50)]) := ⟨_, rfl⟩
        replace H : (yH.l0 k1 y370 t357 (t357.length : Int) (wrap64 (x21_1 + 1)) a0_0 a0_1 a0_2 a0_3 l0_4) = some (r1, r2, r3) := by first | (rw [hy370]; with_reducible exact H) | (have H2_ := (Option.bind_some _ _).symm.trans H; rw [hy370]; with_reducible exact H2_) | (have H2_ := (Option.bind_some _ _).symm.trans H; with_reducible exact H2_) | with_reducible exact H | (rw [hy370]; exact H) | exact H
        have Ny370 := zC.mk hy370
        clear hy370
        have H' := zC.mk H
        clear H
        have hnb41 := NB364_346.out
        have hnc41 := NB346_364.out
        have hnb42 := NB364_347.out
        have hnc42 := NB347_364.out
        have hnb43 := NB364_352.out
        have hnc43 := NB352_364.out
        have hnb44 := NB364_353.out
        have hnc44 := NB353_364.out
        have hcz45_0 : w38.cell? ⟨gb364, 0, none⟩ = some (.int .i64 ((rd_T50 t357 x21_1).f0)) := zB BK364.out 0
        have hcz45_1 : w38.cell? ⟨gb364, 1, none⟩ = some (.int .i64 ((rd_T50 t357 x21_1).f1)) := zB BK364.out 1
        have hfz45_0 := zJ BK364.out 0
        have hfz45_1 := zJ BK364.out 1
        go_wp2_with (first | ((with_reducible refine gate_builtin (b := .append) (xs := #[.tmp 30, .tmp 32]) rfl ?_); at_builtin; refine Kd.R_append k50 (w0 := w) w.heap.size rfl (.tmp 30) (.tmp 32) 92 50 (.agg #[(.int .i64 0), (.int .i64 0)]) 16 rfl Try.underlying92 info50 rfl (by decide) (by omega) u5 x5_1 (⟨(rd_T50 t357 x21_1).f0, (rd_T50 t357 x21_1).f1⟩ : S50) [.int .i64 ((rd_T50 t357 x21_1).f0), .int .i64 ((rd_T50 t357 x21_1).f1)] (fun k_ => some k_ ≠ (.slice (some ad363) t357.length co22 : Value).ownBlock ∧ k_ ≠ gb352 ∧ k_ ≠ gb353 ∧ k_ ≠ gb364) (fun _ => False) rfl rfl ?aP (fun _ hk => hk.elim) ?aF ?aO ?aB ?aS ?aL ?_; (case aP => exact k50_mkM _ _ _ (⟨(rd_T50 t357 x21_1).f0, (rd_T50 t357 x21_1).f1⟩ : S50)); (case aB => exact (by repeat (first | (with_reducible first | exact HB.out | apply zG | apply zA | apply zD | refine zH ?_ GE346.out | refine zH ?_ GE347.out | refine zH ?_ GE352.out | refine zH ?_ GE353.out | refine zH ?_ GE364.out) | exact HB.out))); (case aF => exact (fun k_ hk => ⟨Kd.fresh' (Kd.R_lt (by (with_reducible repeat (first | apply Kd.R_alloc | apply Kd.R_drewN | apply Kd.R_drew)); exact HO_19.out)) k_ hk, Kd.freshB (g := gb352) (o := .cells #[.int .i64 t348, .int .i64 t349] 50 (0, 0)) (by (with_reducible repeat (first | refine zE ?_ _ | refine zI ?_ | refine zF ?_ _)); exact BK352.out) k_ hk, Kd.freshB (g := gb353) (o := .cells #[.int .i64 t350, .int .i64 t351] 50 (0, 0)) (by (with_reducible repeat (first | refine zE ?_ _ | refine zI ?_ | refine zF ?_ _)); exact BK353.out) k_ hk, Kd.freshB (g := gb364) (o := .cells #[.int .i64 ((rd_T50 t357 x21_1).f0), .int .i64 ((rd_T50 t357 x21_1).f1)] 50 (0, 0)) (by (with_reducible repeat (first | refine zE ?_ _ | refine zI ?_ | refine zF ?_ _)); exact BK364.out) k_ hk⟩)); (case aO => exact (by (with_reducible repeat (first | apply Kd.R_alloc | apply Kd.R_drewN | apply Kd.R_drew)); exact HO_5.out)); (case aS => exact (zM (by repeat (first | (with_reducible first | exact HB.out | apply zG | apply zA | apply zD | refine zH ?_ GE346.out | refine zH ?_ GE347.out | refine zH ?_ GE352.out | refine zH ?_ GE353.out | refine zH ?_ GE364.out) | exact HB.out)))); (case aL => have := LMc40.out; omega); intro v371 w46 ho hb hg hat; rw [← Ny370.out] at ho; have n0_ := zC.mk (Kd.R_after (ok := (fun k_ => k_ ≠ gb352 ∧ k_ ≠ gb353 ∧ k_ ≠ gb364)) (by (with_reducible repeat (first | apply Kd.R_alloc | apply Kd.R_drewN | apply Kd.R_drew)); exact Kd.R_mono HO_19.out (fun _ hk => ⟨⟨hk.2.1, ⟨hk.2.2.1, hk.2.2.2⟩⟩, hk.1⟩)) hg hat); have n1_ := zC.mk (blk_grown (g := gb346) (o := .cells #[.int .i64 a0_0, .int .i64 a0_1, .int .i64 a0_2, .int .i64 a0_3, .slice A0_4 l0_4.length c0_4] 32 (0, 0)) (by (with_reducible repeat (first | refine zE ?_ _ | refine zI ?_ | refine zF ?_ _)); exact BK346.out) hg (Kd.R_ne HO_5.out BK346.out (by decide))); have n2_ := zC.mk (blk_grown (g := gb347) (o := .cells #[.int .i64 0, .int .i64 0, .int .i64 0] 30 (0, 0)) (by (with_reducible repeat (first | refine zE ?_ _ | refine zI ?_ | refine zF ?_ _)); exact BK347.out) hg (Kd.R_ne HO_5.out BK347.out (by decide))); have n3_ := zC.mk (blk_grown (g := gb352) (o := .cells #[.int .i64 t348, .int .i64 t349] 50 (0, 0)) (by (with_reducible repeat (first | refine zE ?_ _ | refine zI ?_ | refine zF ?_ _)); exact BK352.out) hg (Kd.R_away HO_5.out (fun _ hk => hk.2.1))); have n4_ := zC.mk (blk_grown (g := gb353) (o := .cells #[.int .i64 t350, .int .i64 t351] 50 (0, 0)) (by (with_reducible repeat (first | refine zE ?_ _ | refine zI ?_ | refine zF ?_ _)); exact BK353.out) hg (Kd.R_away HO_5.out (fun _ hk => hk.2.2.1))); have n5_ := zC.mk (blk_grown (g := gb364) (o := .cells #[.int .i64 ((rd_T50 t357 x21_1).f0), .int .i64 ((rd_T50 t357 x21_1).f1)] 50 (0, 0)) (by (with_reducible repeat (first | refine zE ?_ _ | refine zI ?_ | refine zF ?_ _)); exact BK364.out) hg (Kd.R_away HO_5.out (fun _ hk => hk.2.2.2))); have n6_ := zC.mk (hb); have n7_ := zC.mk (ho); clear HO_19; clear BK346; clear BK347; clear BK352; clear BK353; clear BK364; clear HB; clear HO_5; have HO_19 := n0_; have BK346 := n1_; have BK347 := n2_; have BK352 := n3_; have BK353 := n4_; have BK364 := n5_; have HB := n6_; have HO372 := n7_; clear n0_ n1_ n2_ n3_ n4_ n5_ n6_ n7_; clear ho hb hg hat))
        go_roundg k1
        case measure => have := HK1.out; omega
        case rel => exact ⟨(y370), (wrap64 (x21_1 + 1)), (by first | rfl | (simp; done) | (simp [*]; done)), H', ⟨by have := HK1.out; omega⟩, ⟨by (with_reducible repeat (first | apply Kd.R_alloc | apply Kd.R_drewN | apply Kd.R_drew)); exact Kd.R_mono HO372.out (fun _ hk => ⟨hk.1, ⟨hk.2.1, hk.2.2.1⟩⟩)⟩, ⟨by (with_reducible repeat (first | apply Kd.R_alloc | apply Kd.R_drewN | apply Kd.R_drew)); exact Kd.R_mono HO_19.out (fun _ hk => ⟨hk.2, ⟨hk.1.1, hk.1.2.1⟩⟩)⟩, ⟨by (with_reducible repeat (first | refine zE ?_ _ | refine zI ?_ | refine zF ?_ _)); exact BK346.out⟩, ⟨by (with_reducible repeat (first | refine zE ?_ _ | refine zI ?_ | refine zF ?_ _)); exact BK347.out⟩, ⟨by (with_reducible repeat (first | refine zE ?_ _ | refine zI ?_ | refine zF ?_ _)); exact BK352.out⟩, ⟨by (with_reducible repeat (first | refine zE ?_ _ | refine zI ?_ | refine zF ?_ _)); exact BK353.out⟩, ⟨by repeat (first | (with_reducible first | exact HB.out | apply zG | apply zA | apply zD | refine zH ?_ GE346.out | refine zH ?_ GE347.out | refine zH ?_ GE352.out | refine zH ?_ GE353.out | refine zH ?_ GE364.out) | exact HB.out)⟩⟩
       ·
        rw [if_neg c40] at H
        exact absurd H (by simp)
      ·
       replace c39 := Bool.eq_false_iff.mpr c39
       subst c39
       have H1 : (yH.l0 k1 x5_1 t357 (t357.length : Int) (wrap64 (x21_1 + 1)) a0_0 a0_1 a0_2 a0_3 l0_4) = some (r1, r2, r3) := by rw [if_neg (show ¬ (false = true) by decide)] at H; exact H
       clear H
       have H := H1
       clear H1
       have H' := zC.mk H
       clear H
       go_wp2
       go_roundg k1
       case measure => have := HK1.out; omega
       case rel => exact ⟨(x5_1), (wrap64 (x21_1 + 1)), (by first | rfl | (simp; done) | (simp [*]; done)), H', ⟨by have := HK1.out; omega⟩, ⟨by (with_reducible repeat (first | apply Kd.R_alloc | apply Kd.R_drewN | apply Kd.R_drew)); exact Kd.R_mono HO_5.out (fun _ hk => ⟨hk.1, ⟨hk.2.1, hk.2.2.1⟩⟩)⟩, ⟨by (with_reducible repeat (first | apply Kd.R_alloc | apply Kd.R_drewN | apply Kd.R_drew)); exact Kd.R_mono HO_19.out (fun _ hk => ⟨hk.1, ⟨hk.2.1, hk.2.2.1⟩⟩)⟩, ⟨by (with_reducible repeat (first | refine zE ?_ _ | refine zI ?_ | refine zF ?_ _)); exact BK346.out⟩, ⟨by (with_reducible repeat (first | refine zE ?_ _ | refine zI ?_ | refine zF ?_ _)); exact BK347.out⟩, ⟨by (with_reducible repeat (first | refine zE ?_ _ | refine zI ?_ | refine zF ?_ _)); exact BK352.out⟩, ⟨by (with_reducible repeat (first | refine zE ?_ _ | refine zI ?_ | refine zF ?_ _)); exact BK353.out⟩, ⟨by repeat (first | (with_reducible first | exact HB.out | apply zG | apply zA | apply zD | refine zH ?_ GE346.out | refine zH ?_ GE347.out | refine zH ?_ GE352.out | refine zH ?_ GE353.out | refine zH ?_ GE364.out) | exact HB.out)⟩⟩
     ·
      rw [if_neg c25] at H
      exact absurd H (by simp)
    ·
     rw [if_neg c24] at H
     exact absurd H (by simp)
   ·
    rw [if_neg c23] at H
    have c23b0 : decide (x21_1 < (t357.length : Int)) = false := decide_eq_false c23
    clear c23
    replace H := Option.bind_eq_some_iff.mp H
    obtain ⟨⟨t360, t361, t362⟩, A470, H⟩ := H
    replace H : (some (t360, t361, t362)) = some (r1, r2, r3) := H
    have A47 := zC.mk A470
    clear A470
    simp only [Option.some.injEq, Prod.mk.injEq] at H
    obtain ⟨rfl, rfl, rfl⟩ := H
    obtain ⟨Ao48, co48, eo48⟩ := Kd.R_slice HO_5.out
    subst eo48
    go_wp2_with (first | ((with_reducible refine zQ (f := 169) rfl ?_); refine zX (some 36) rfl rfl Try.func169 (by kernel_rfl) rfl #[.slice Ao48 x5_1.length co48] rfl (by (try simp only [List.map_toArray, List.map_cons, List.map_nil]); first | done | rfl) ?_; (with_reducible refine (yI.calls k1 _ _ x5_1 t360 t361 t362 _ ?side1 ?side2 A47.out).mono ?_); (case side1 => repeat (first | exact (Kd.R_reads' HO_5.out).2.2 | (with_reducible refine Kd.C_alloc ?_ _) | (with_reducible refine Kd.C_drewN ?_ _) | (with_reducible refine Kd.C_drew ?_))); (case side2 => exact (Kd.R_reads' HO_5.out).2.1); rintro e w49 ⟨rfl, hb⟩; refine ⟨_, rfl, ?_⟩; have n0_ := zC.mk (Kd.R_below (by (with_reducible repeat (first | apply Kd.R_alloc | apply Kd.R_drewN | apply Kd.R_drew)); exact HO_5.out) hb); have n1_ := zC.mk (Kd.R_below (by (with_reducible repeat (first | apply Kd.R_alloc | apply Kd.R_drewN | apply Kd.R_drew)); exact HO_19.out) hb); have n2_ := zC.mk (zK (g := gb346) (o := .cells #[.int .i64 a0_0, .int .i64 a0_1, .int .i64 a0_2, .int .i64 a0_3, .slice A0_4 l0_4.length c0_4] 32 (0, 0)) (by (with_reducible repeat (first | refine zE ?_ _ | refine zI ?_ | refine zF ?_ _)); exact BK346.out) hb); have n3_ := zC.mk (zK (g := gb347) (o := .cells #[.int .i64 0, .int .i64 0, .int .i64 0] 30 (0, 0)) (by (with_reducible repeat (first | refine zE ?_ _ | refine zI ?_ | refine zF ?_ _)); exact BK347.out) hb); have n4_ := zC.mk (zK (g := gb352) (o := .cells #[.int .i64 t348, .int .i64 t349] 50 (0, 0)) (by (with_reducible repeat (first | refine zE ?_ _ | refine zI ?_ | refine zF ?_ _)); exact BK352.out) hb); have n5_ := zC.mk (zK (g := gb353) (o := .cells #[.int .i64 t350, .int .i64 t351] 50 (0, 0)) (by (with_reducible repeat (first | refine zE ?_ _ | refine zI ?_ | refine zF ?_ _)); exact BK353.out) hb); have n6_ := zC.mk (zL (by repeat (first | (with_reducible first | exact HB.out | apply zG | apply zA | apply zD | refine zH ?_ GE346.out | refine zH ?_ GE347.out | refine zH ?_ GE352.out | refine zH ?_ GE353.out) | exact HB.out)) hb); clear HO_5; clear HO_19; clear BK346; clear BK347; clear BK352; clear BK353; clear HB; have HO_5 := n0_; have HO_19 := n1_; have BK346 := n2_; have BK347 := n3_; have BK352 := n4_; have BK353 := n5_; have HB := n6_; clear n0_ n1_ n2_ n3_ n4_ n5_ n6_; (try clear hb); have hnb50 := NB347_346.out; have hnc50 := NB346_347.out; have hnb51 := NB347_352.out; have hnc51 := NB352_347.out; have hnb52 := NB347_353.out; have hnc52 := NB353_347.out; have hcz53_0 : w49.cell? ⟨gb347, 0, none⟩ = some (.int .i64 0) := zB BK347.out 0; have hcz53_1 : w49.cell? ⟨gb347, 1, none⟩ = some (.int .i64 0) := zB BK347.out 1; have hcz53_2 : w49.cell? ⟨gb347, 2, none⟩ = some (.int .i64 0) := zB BK347.out 2; have hfz53_0 := zJ BK347.out 0; have hfz53_1 := zJ BK347.out 1; have hfz53_2 := zJ BK347.out 2))
    refine bodyPost_ret (results_cell_row rfl _ _ gb347 30 #[.int .i64 t360, .int .i64 t361, .int .i64 t362] (0, 0) _ rfl (by (with_reducible repeat (first | refine zE ?_ _ | refine zI ?_ | refine zF ?_ _)); refine zS (cs := #[.int .i64 t360, .int .i64 t361, .int .i64 0]) ?_ 2 _ rfl; (with_reducible repeat (first | refine zE ?_ _ | refine zI ?_ | refine zF ?_ _)); refine zS (cs := #[.int .i64 t360, .int .i64 0, .int .i64 0]) ?_ 1 _ rfl; (with_reducible repeat (first | refine zE ?_ _ | refine zI ?_ | refine zF ?_ _)); refine zS (cs := #[.int .i64 0, .int .i64 0, .int .i64 0]) ?_ 0 _ rfl; (with_reducible repeat (first | refine zE ?_ _ | refine zI ?_ | refine zF ?_ _)); exact BK347.out) Try.underlying30 rfl (by kernel_rfl)) rfl ?_
    exact ⟨by first | rfl | (simp [*, errW_none, errW_some] <;> rfl), by repeat (first | (with_reducible first | exact HB.out | apply zG | apply zA | apply zD | refine zH ?_ GE346.out | refine zH ?_ GE347.out | refine zH ?_ GE352.out | refine zH ?_ GE353.out) | exact HB.out)⟩
theorem xI.calls (k : Nat) (a0_0 : Int) (a0_1 : Int) (a0_2 : Int) (a0_3 : Int) (A0_4 : Option Addr) (c0_4 : Nat) (l0_4 : List Int) (r1 : Int) (r2 : Int) (r3 : Int) (r4 : Int) (w : World) (hr0_4 : Kd.C (Kd.int .i64) w A0_4 l0_4.length l0_4) (hc0_4 : l0_4.length ≤ c0_4) (h : xI.f k a0_0 a0_1 a0_2 a0_3 l0_4 = some (r1, r2, r3, r4)) :
  Calls Try.prog 94 #[.agg #[.int .i64 a0_0, .int .i64 a0_1, .int .i64 a0_2, .int .i64 a0_3, .slice A0_4 l0_4.length c0_4]] w fun e w' => e = .returned (.tuple #[.agg #[.int .i64 r1, .int .i64 r2, .int .i64 r3], .int .i64 r4]) ∧ Below w.heap.size w w' := by
 have hu32 := Try.underlying32
 have hu30 := Try.underlying30
 have HR0_4 := zC.mk hr0_4
 have HC0_4 := zC.mk hc0_4
 clear hr0_4 hc0_4
 have HB := zC.mk (Below.refl w.heap.size w)
 have H : ((xS.f a0_0 a0_1 a0_2 a0_3 l0_4).bind fun t375 => (if t375 = true then (if a0_0 = 0 then ((yH.f k a0_0 a0_1 a0_2 a0_3 l0_4).bind fun bt376 => (some (bt376.1, bt376.2.1, bt376.2.2, 0))) else (some (0, 0, 0, 1))) else (some (0, 0, 0, 1)))) = some (r1, r2, r3, r4) := h
 clear h
 replace H := Option.bind_eq_some_iff.mp H
 obtain ⟨t375, A20, H⟩ := H
 replace H : (if t375 = true then (if a0_0 = 0 then ((yH.f k a0_0 a0_1 a0_2 a0_3 l0_4).bind fun bt376 => (some (bt376.1, bt376.2.1, bt376.2.2, 0))) else (some (0, 0, 0, 1))) else (some (0, 0, 0, 1))) = some (r1, r2, r3, r4) := H
 have A2 := zC.mk A20
 clear A20
 by_cases c3 : t375 = true
 ·
  subst c3
  have H1 : (if a0_0 = 0 then ((yH.f k a0_0 a0_1 a0_2 a0_3 l0_4).bind fun bt376 => (some (bt376.1, bt376.2.1, bt376.2.2, 0))) else (some (0, 0, 0, 1))) = some (r1, r2, r3, r4) := by rw [if_pos rfl] at H; exact H
  clear H
  have H := H1
  clear H1
  have HX4 := zC.mk H
  clear H
  go_enter Try.func94, Try.ntmps94
  go_upto_if 11 with (first | ((with_reducible refine zP (N := 1) rfl ?_); refine zN ?hg (N := 1) ?hd (cs := #[.int .i64 a0_0, .int .i64 a0_1, .int .i64 a0_2, .int .i64 a0_3, .slice A0_4 l0_4.length c0_4]) (t := 32) ?hr ?_; (case hd => rfl); (case hg => rfl); (case hr => first | (go_simp; done) | (go_simp; rfl)); intro gb373 hg w5 hbox hb; have n0_ := zC.mk (zL (by repeat (first | (with_reducible first | exact HB.out | apply zG | apply zA | apply zD) | exact HB.out)) hb); have n1_ := zC.mk (hbox); have n2_ := zC.mk ((by rw [hg]; exact (zM (by repeat (first | (with_reducible first | exact HB.out | apply zG | apply zA | apply zD) | exact HB.out))) : w.heap.size ≤ gb373)); have n3_ := n2_; clear HB; have HB := n0_; have BK373 := n1_; have GW373 := n2_; have GE373 := n3_; clear n0_ n1_ n2_ n3_; clear hb hbox hg) | ((with_reducible refine zP (N := 2) rfl ?_); refine zN ?hg (N := 2) ?hd (cs := #[.int .i64 0, .int .i64 0, .int .i64 0]) (t := 30) ?hr ?_; (case hd => rfl); (case hg => rfl); (case hr => first | (go_simp; done) | (go_simp; rfl)); intro gb374 hg w6 hbox hb; have n0_ := zC.mk (zK (g := gb373) (o := .cells #[.int .i64 a0_0, .int .i64 a0_1, .int .i64 a0_2, .int .i64 a0_3, .slice A0_4 l0_4.length c0_4] 32 (0, 0)) (by (with_reducible repeat (first | refine zE ?_ _ | refine zI ?_ | refine zF ?_ _)); exact BK373.out) hb); have n1_ := zC.mk (zL (by repeat (first | (with_reducible first | exact HB.out | apply zG | apply zA | apply zD | refine zH ?_ GE373.out) | exact HB.out)) hb); have n2_ := zC.mk (hbox); have n3_ := zC.mk ((by rw [hg]; exact (zM (by repeat (first | (with_reducible first | exact HB.out | apply zG | apply zA | apply zD | refine zH ?_ GE373.out) | exact HB.out))) : w.heap.size ≤ gb374)); have n4_ := n3_; have n5_ := zC.mk ((by rw [hg]; exact Nat.ne_of_lt (zV (by (with_reducible repeat (first | refine zE ?_ _ | refine zI ?_ | refine zF ?_ _)); exact BK373.out)) : gb373 ≠ gb374)); have n6_ := zC.mk n5_.out.symm; clear BK373; clear HB; have BK373 := n0_; have HB := n1_; have BK374 := n2_; have GW374 := n3_; have GE374 := n4_; have NB373_374 := n5_; have NB374_373 := n6_; clear n0_ n1_ n2_ n3_ n4_ n5_ n6_; clear hb hbox hg; have hnb7 := NB373_374.out; have hnc7 := NB374_373.out; have hcz8_0 : w6.cell? ⟨gb373, 0, none⟩ = some (.int .i64 a0_0) := zB BK373.out 0; have hcz8_1 : w6.cell? ⟨gb373, 1, none⟩ = some (.int .i64 a0_1) := zB BK373.out 1; have hcz8_2 : w6.cell? ⟨gb373, 2, none⟩ = some (.int .i64 a0_2) := zB BK373.out 2; have hcz8_3 : w6.cell? ⟨gb373, 3, none⟩ = some (.int .i64 a0_3) := zB BK373.out 3; have hcz8_4 : w6.cell? ⟨gb373, 4, none⟩ = some (.slice A0_4 l0_4.length c0_4) := zB BK373.out 4; have hfz8_0 := zJ BK373.out 0; have hfz8_1 := zJ BK373.out 1; have hfz8_2 := zJ BK373.out 2; have hfz8_3 := zJ BK373.out 3; have hfz8_4 := zJ BK373.out 4) | ((with_reducible refine zQ (f := 131) rfl ?_); refine zX (some 5) rfl rfl Try.func131 (by kernel_rfl) rfl #[.agg #[.int .i64 a0_0, .int .i64 a0_1, .int .i64 a0_2, .int .i64 a0_3, .slice A0_4 l0_4.length c0_4]] rfl (by (try simp only [List.map_toArray, List.map_cons, List.map_nil]); first | done | rfl) ?_; (with_reducible refine (xS.calls a0_0 a0_1 a0_2 a0_3 _ _ l0_4 true _ ?side1 ?side2 A2.out).mono ?_); (case side1 => repeat (first | exact (Kd.C_below HR0_4.out HB.out) | (with_reducible refine Kd.C_alloc ?_ _) | (with_reducible refine Kd.C_drewN ?_ _) | (with_reducible refine Kd.C_drew ?_))); (case side2 => exact HC0_4.out); rintro e w9 ⟨rfl, hb⟩; refine ⟨_, rfl, ?_⟩; have n0_ := zC.mk (zK (g := gb373) (o := .cells #[.int .i64 a0_0, .int .i64 a0_1, .int .i64 a0_2, .int .i64 a0_3, .slice A0_4 l0_4.length c0_4] 32 (0, 0)) (by (with_reducible repeat (first | refine zE ?_ _ | refine zI ?_ | refine zF ?_ _)); exact BK373.out) hb); have n1_ := zC.mk (zK (g := gb374) (o := .cells #[.int .i64 0, .int .i64 0, .int .i64 0] 30 (0, 0)) (by (with_reducible repeat (first | refine zE ?_ _ | refine zI ?_ | refine zF ?_ _)); exact BK374.out) hb); have n2_ := zC.mk (zL (by repeat (first | (with_reducible first | exact HB.out | apply zG | apply zA | apply zD | refine zH ?_ GE373.out | refine zH ?_ GE374.out) | exact HB.out)) hb); clear BK373; clear BK374; clear HB; have BK373 := n0_; have BK374 := n1_; have HB := n2_; clear n0_ n1_ n2_; (try clear hb); have hcz10_0 : w9.cell? ⟨gb373, 0, none⟩ = some (.int .i64 a0_0) := zB BK373.out 0; have hcz10_1 : w9.cell? ⟨gb373, 1, none⟩ = some (.int .i64 a0_1) := zB BK373.out 1; have hcz10_2 : w9.cell? ⟨gb373, 2, none⟩ = some (.int .i64 a0_2) := zB BK373.out 2; have hcz10_3 : w9.cell? ⟨gb373, 3, none⟩ = some (.int .i64 a0_3) := zB BK373.out 3; have hcz10_4 : w9.cell? ⟨gb373, 4, none⟩ = some (.slice A0_4 l0_4.length c0_4) := zB BK373.out 4; have hfz10_0 := zJ BK373.out 0; have hfz10_1 := zJ BK373.out 1; have hfz10_2 := zJ BK373.out 2; have hfz10_3 := zJ BK373.out 3; have hfz10_4 := zJ BK373.out 4))
  have H := HX4.out
  clear HX4
  by_cases c11 : a0_0 = 0
  ·
   rw [if_pos c11] at H
   have c11b0 : (a0_0 == 0) = true := beq_iff_eq.mpr c11
   have c11b1 : (a0_0 != 0) = false := bne_eq_false_iff_eq.mpr c11
   clear c11
   (first | rw [c11b0] | (simp only [zY, zZ]; rw [c11b0]) | skip)
   replace H := Option.bind_eq_some_iff.mp H
   obtain ⟨⟨t376, t377, t378⟩, A120, H⟩ := H
   replace H : (some (t376, t377, t378, 0)) = some (r1, r2, r3, r4) := H
   have A12 := zC.mk A120
   clear A120
   simp only [Option.some.injEq, Prod.mk.injEq] at H
   obtain ⟨rfl, rfl, rfl, rfl⟩ := H
   have hnb13 := NB373_374.out
   have hnc13 := NB374_373.out
   have hcz14_0 : w9.cell? ⟨gb373, 0, none⟩ = some (.int .i64 a0_0) := zB BK373.out 0
   have hcz14_1 : w9.cell? ⟨gb373, 1, none⟩ = some (.int .i64 a0_1) := zB BK373.out 1
   have hcz14_2 : w9.cell? ⟨gb373, 2, none⟩ = some (.int .i64 a0_2) := zB BK373.out 2
   have hcz14_3 : w9.cell? ⟨gb373, 3, none⟩ = some (.int .i64 a0_3) := zB BK373.out 3
   have hcz14_4 : w9.cell? ⟨gb373, 4, none⟩ = some (.slice A0_4 l0_4.length c0_4) := zB BK373.out 4
   have hfz14_0 := zJ BK373.out 0
   have hfz14_1 := zJ BK373.out 1
   have hfz14_2 := zJ BK373.out 2
   have hfz14_3 := zJ BK373.out 3
   have hfz14_4 := zJ BK373.out 4
   go_wp2_with (first | ((with_reducible refine zQ (f := 132) rfl ?_); refine zX (some 14) rfl rfl Try.func132 (by kernel_rfl) rfl #[.agg #[.int .i64 a0_0, .int .i64 a0_1, .int .i64 a0_2, .int .i64 a0_3, .slice A0_4 l0_4.length c0_4]] rfl (by (try simp only [List.map_toArray, List.map_cons, List.map_nil]); first | done | rfl) ?_; (with_reducible refine (yH.calls k a0_0 a0_1 a0_2 a0_3 _ _ l0_4 t376 t377 t378 _ ?side1 ?side2 A12.out).mono ?_); (case side1 => repeat (first | exact (Kd.C_below HR0_4.out HB.out) | (with_reducible refine Kd.C_alloc ?_ _) | (with_reducible refine Kd.C_drewN ?_ _) | (with_reducible refine Kd.C_drew ?_))); (case side2 => exact HC0_4.out); rintro e w15 ⟨rfl, hb⟩; refine ⟨_, rfl, ?_⟩; have n0_ := zC.mk (zK (g := gb373) (o := .cells #[.int .i64 a0_0, .int .i64 a0_1, .int .i64 a0_2, .int .i64 a0_3, .slice A0_4 l0_4.length c0_4] 32 (0, 0)) (by (with_reducible repeat (first | refine zE ?_ _ | refine zI ?_ | refine zF ?_ _)); exact BK373.out) hb); have n1_ := zC.mk (zK (g := gb374) (o := .cells #[.int .i64 0, .int .i64 0, .int .i64 0] 30 (0, 0)) (by (with_reducible repeat (first | refine zE ?_ _ | refine zI ?_ | refine zF ?_ _)); exact BK374.out) hb); have n2_ := zC.mk (zL (by repeat (first | (with_reducible first | exact HB.out | apply zG | apply zA | apply zD | refine zH ?_ GE373.out | refine zH ?_ GE374.out) | exact HB.out)) hb); clear BK373; clear BK374; clear HB; have BK373 := n0_; have BK374 := n1_; have HB := n2_; clear n0_ n1_ n2_; (try clear hb); have hcz16_0 : w15.cell? ⟨gb374, 0, none⟩ = some (.int .i64 0) := zB BK374.out 0; have hcz16_1 : w15.cell? ⟨gb374, 1, none⟩ = some (.int .i64 0) := zB BK374.out 1; have hcz16_2 : w15.cell? ⟨gb374, 2, none⟩ = some (.int .i64 0) := zB BK374.out 2; have hfz16_0 := zJ BK374.out 0; have hfz16_1 := zJ BK374.out 1; have hfz16_2 := zJ BK374.out 2))
   refine bodyPost_ret (results_ct rfl _ _ gb374 30 #[.int .i64 t376, .int .i64 t377, .int .i64 t378] (0, 0) _ rfl (by (with_reducible repeat (first | refine zE ?_ _ | refine zI ?_ | refine zF ?_ _)); refine zS (cs := #[.int .i64 t376, .int .i64 t377, .int .i64 0]) ?_ 2 _ rfl; (with_reducible repeat (first | refine zE ?_ _ | refine zI ?_ | refine zF ?_ _)); refine zS (cs := #[.int .i64 t376, .int .i64 0, .int .i64 0]) ?_ 1 _ rfl; (with_reducible repeat (first | refine zE ?_ _ | refine zI ?_ | refine zF ?_ _)); refine zS (cs := #[.int .i64 0, .int .i64 0, .int .i64 0]) ?_ 0 _ rfl; (with_reducible repeat (first | refine zE ?_ _ | refine zI ?_ | refine zF ?_ _)); exact BK374.out) Try.underlying30 rfl (by kernel_rfl)) rfl ?_
   exact ⟨by first | rfl | (simp [*, errW_none, errW_some] <;> rfl), by repeat (first | (with_reducible first | exact HB.out | apply zG | apply zA | apply zD | refine zH ?_ GE373.out | refine zH ?_ GE374.out) | exact HB.out)⟩
  ·
   rw [if_neg c11] at H
   have c11b0 : (a0_0 == 0) = false := beq_eq_false_iff_ne.mpr c11
   have c11b1 : (a0_0 != 0) = true := bne_iff_ne.mpr c11
   (first | rw [c11b0] | (simp only [zY, zZ]; rw [c11b0]) | skip)
   simp only [Option.some.injEq, Prod.mk.injEq] at H
   obtain ⟨rfl, rfl, rfl, rfl⟩ := H
   have hnb17 := NB374_373.out
   have hnc17 := NB373_374.out
   have hcz18_0 : w9.cell? ⟨gb374, 0, none⟩ = some (.int .i64 0) := zB BK374.out 0
   have hcz18_1 : w9.cell? ⟨gb374, 1, none⟩ = some (.int .i64 0) := zB BK374.out 1
   have hcz18_2 : w9.cell? ⟨gb374, 2, none⟩ = some (.int .i64 0) := zB BK374.out 2
   have hfz18_0 := zJ BK374.out 0
   have hfz18_1 := zJ BK374.out 1
   have hfz18_2 := zJ BK374.out 2
   go_wp2
   refine bodyPost_ret (results_ct rfl _ _ gb374 30 #[.int .i64 0, .int .i64 0, .int .i64 0] (0, 0) _ rfl (by (with_reducible repeat (first | refine zE ?_ _ | refine zI ?_ | refine zF ?_ _)); refine zS (cs := #[.int .i64 0, .int .i64 0, .int .i64 0]) ?_ 2 _ rfl; (with_reducible repeat (first | refine zE ?_ _ | refine zI ?_ | refine zF ?_ _)); refine zS (cs := #[.int .i64 0, .int .i64 0, .int .i64 0]) ?_ 1 _ rfl; (with_reducible repeat (first | refine zE ?_ _ | refine zI ?_ | refine zF ?_ _)); refine zS (cs := #[.int .i64 0, .int .i64 0, .int .i64 0]) ?_ 0 _ rfl; (with_reducible repeat (first | refine zE ?_ _ | refine zI ?_ | refine zF ?_ _)); exact BK374.out) Try.underlying30 rfl (by kernel_rfl)) rfl ?_
   exact ⟨by first | rfl | (simp [*, errW_none, errW_some] <;> rfl), by repeat (first | (with_reducible first | exact HB.out | apply zG | apply zA | apply zD | refine zH ?_ GE373.out | refine zH ?_ GE374.out) | exact HB.out)⟩
 ·
  replace c3 := Bool.eq_false_iff.mpr c3
  subst c3
  have H1 : (some (0, 0, 0, 1)) = some (r1, r2, r3, r4) := by rw [if_neg (show ¬ (false = true) by decide)] at H; exact H
  clear H
  have H := H1
  clear H1
  simp only [Option.some.injEq, Prod.mk.injEq] at H
  obtain ⟨rfl, rfl, rfl, rfl⟩ := H
  go_enter Try.func94, Try.ntmps94
  go_wp2_with (first | ((with_reducible refine zP (N := 1) rfl ?_); refine zN ?hg (N := 1) ?hd (cs := #[.int .i64 a0_0, .int .i64 a0_1, .int .i64 a0_2, .int .i64 a0_3, .slice A0_4 l0_4.length c0_4]) (t := 32) ?hr ?_; (case hd => rfl); (case hg => rfl); (case hr => first | (go_simp; done) | (go_simp; rfl)); intro gb373 hg w19 hbox hb; have n0_ := zC.mk (zL (by repeat (first | (with_reducible first | exact HB.out | apply zG | apply zA | apply zD) | exact HB.out)) hb); have n1_ := zC.mk (hbox); have n2_ := zC.mk ((by rw [hg]; exact (zM (by repeat (first | (with_reducible first | exact HB.out | apply zG | apply zA | apply zD) | exact HB.out))) : w.heap.size ≤ gb373)); have n3_ := n2_; clear HB; have HB := n0_; have BK373 := n1_; have GW373 := n2_; have GE373 := n3_; clear n0_ n1_ n2_ n3_; clear hb hbox hg) | ((with_reducible refine zP (N := 2) rfl ?_); refine zN ?hg (N := 2) ?hd (cs := #[.int .i64 0, .int .i64 0, .int .i64 0]) (t := 30) ?hr ?_; (case hd => rfl); (case hg => rfl); (case hr => first | (go_simp; done) | (go_simp; rfl)); intro gb374 hg w20 hbox hb; have n0_ := zC.mk (zK (g := gb373) (o := .cells #[.int .i64 a0_0, .int .i64 a0_1, .int .i64 a0_2, .int .i64 a0_3, .slice A0_4 l0_4.length c0_4] 32 (0, 0)) (by (with_reducible repeat (first | refine zE ?_ _ | refine zI ?_ | refine zF ?_ _)); exact BK373.out) hb); have n1_ := zC.mk (zL (by repeat (first | (with_reducible first | exact HB.out | apply zG | apply zA | apply zD | refine zH ?_ GE373.out) | exact HB.out)) hb); have n2_ := zC.mk (hbox); have n3_ := zC.mk ((by rw [hg]; exact (zM (by repeat (first | (with_reducible first | exact HB.out | apply zG | apply zA | apply zD | refine zH ?_ GE373.out) | exact HB.out))) : w.heap.size ≤ gb374)); have n4_ := n3_; have n5_ := zC.mk ((by rw [hg]; exact Nat.ne_of_lt (zV (by (with_reducible repeat (first | refine zE ?_ _ | refine zI ?_ | refine zF ?_ _)); exact BK373.out)) : gb373 ≠ gb374)); have n6_ := zC.mk n5_.out.symm; clear BK373; clear HB; have BK373 := n0_; have HB := n1_; have BK374 := n2_; have GW374 := n3_; have GE374 := n4_; have NB373_374 := n5_; have NB374_373 := n6_; clear n0_ n1_ n2_ n3_ n4_ n5_ n6_; clear hb hbox hg; have hnb21 := NB373_374.out; have hnc21 := NB374_373.out; have hcz22_0 : w20.cell? ⟨gb373, 0, none⟩ = some (.int .i64 a0_0) := zB BK373.out 0; have hcz22_1 : w20.cell? ⟨gb373, 1, none⟩ = some (.int .i64 a0_1) := zB BK373.out 1; have hcz22_2 : w20.cell? ⟨gb373, 2, none⟩ = some (.int .i64 a0_2) := zB BK373.out 2; have hcz22_3 : w20.cell? ⟨gb373, 3, none⟩ = some (.int .i64 a0_3) := zB BK373.out 3; have hcz22_4 : w20.cell? ⟨gb373, 4, none⟩ = some (.slice A0_4 l0_4.length c0_4) := zB BK373.out 4; have hfz22_0 := zJ BK373.out 0; have hfz22_1 := zJ BK373.out 1; have hfz22_2 := zJ BK373.out 2; have hfz22_3 := zJ BK373.out 3; have hfz22_4 := zJ BK373.out 4) | ((with_reducible refine zQ (f := 131) rfl ?_); refine zX (some 5) rfl rfl Try.func131 (by kernel_rfl) rfl #[.agg #[.int .i64 a0_0, .int .i64 a0_1, .int .i64 a0_2, .int .i64 a0_3, .slice A0_4 l0_4.length c0_4]] rfl (by (try simp only [List.map_toArray, List.map_cons, List.map_nil]); first | done | rfl) ?_; (with_reducible refine (xS.calls a0_0 a0_1 a0_2 a0_3 _ _ l0_4 false _ ?side1 ?side2 A2.out).mono ?_); (case side1 => repeat (first | exact (Kd.C_below HR0_4.out HB.out) | (with_reducible refine Kd.C_alloc ?_ _) | (with_reducible refine Kd.C_drewN ?_ _) | (with_reducible refine Kd.C_drew ?_))); (case side2 => exact HC0_4.out); rintro e w23 ⟨rfl, hb⟩; refine ⟨_, rfl, ?_⟩; have n0_ := zC.mk (zK (g := gb373) (o := .cells #[.int .i64 a0_0, .int .i64 a0_1, .int .i64 a0_2, .int .i64 a0_3, .slice A0_4 l0_4.length c0_4] 32 (0, 0)) (by (with_reducible repeat (first | refine zE ?_ _ | refine zI ?_ | refine zF ?_ _)); exact BK373.out) hb); have n1_ := zC.mk (zK (g := gb374) (o := .cells #[.int .i64 0, .int .i64 0, .int .i64 0] 30 (0, 0)) (by (with_reducible repeat (first | refine zE ?_ _ | refine zI ?_ | refine zF ?_ _)); exact BK374.out) hb); have n2_ := zC.mk (zL (by repeat (first | (with_reducible first | exact HB.out | apply zG | apply zA | apply zD | refine zH ?_ GE373.out | refine zH ?_ GE374.out) | exact HB.out)) hb); clear BK373; clear BK374; clear HB; have BK373 := n0_; have BK374 := n1_; have HB := n2_; clear n0_ n1_ n2_; (try clear hb); have hcz24_0 : w23.cell? ⟨gb374, 0, none⟩ = some (.int .i64 0) := zB BK374.out 0; have hcz24_1 : w23.cell? ⟨gb374, 1, none⟩ = some (.int .i64 0) := zB BK374.out 1; have hcz24_2 : w23.cell? ⟨gb374, 2, none⟩ = some (.int .i64 0) := zB BK374.out 2; have hfz24_0 := zJ BK374.out 0; have hfz24_1 := zJ BK374.out 1; have hfz24_2 := zJ BK374.out 2))
  refine bodyPost_ret (results_ct rfl _ _ gb374 30 #[.int .i64 0, .int .i64 0, .int .i64 0] (0, 0) _ rfl (by (with_reducible repeat (first | refine zE ?_ _ | refine zI ?_ | refine zF ?_ _)); refine zS (cs := #[.int .i64 0, .int .i64 0, .int .i64 0]) ?_ 2 _ rfl; (with_reducible repeat (first | refine zE ?_ _ | refine zI ?_ | refine zF ?_ _)); refine zS (cs := #[.int .i64 0, .int .i64 0, .int .i64 0]) ?_ 1 _ rfl; (with_reducible repeat (first | refine zE ?_ _ | refine zI ?_ | refine zF ?_ _)); refine zS (cs := #[.int .i64 0, .int .i64 0, .int .i64 0]) ?_ 0 _ rfl; (with_reducible repeat (first | refine zE ?_ _ | refine zI ?_ | refine zF ?_ _)); exact BK374.out) Try.underlying30 rfl (by kernel_rfl)) rfl ?_
  exact ⟨by first | rfl | (simp [*, errW_none, errW_some] <;> rfl), by repeat (first | (with_reducible first | exact HB.out | apply zG | apply zA | apply zD | refine zH ?_ GE373.out | refine zH ?_ GE374.out) | exact HB.out)⟩
attribute [local go_sem high] eqA50
theorem wB.calls (a0_0 : Int) (a0_1 : Int) (a0_2 : Int) (a1_0 : Int) (a1_1 : Int) (r : Bool) (w : World) (h : wB.f a0_0 a0_1 a0_2 a1_0 a1_1 = some r) :
  Calls Try.prog 133 #[.agg #[.int .i64 a0_0, .int .i64 a0_1, .int .i64 a0_2], .agg #[.int .i64 a1_0, .int .i64 a1_1]] w fun e w' => e = .returned (.bool r) ∧ Below w.heap.size w w' := by
 have hu30 := Try.underlying30
 have hu50 := Try.underlying50
 have HB := zC.mk (Below.refl w.heap.size w)
 have H : ((xP.f a0_0 a0_1 a0_2 a1_0 a1_1).bind fun bt381 => (some (bt381.1 == 0 && (bt381.2 == 0)))) = some r := h
 clear h
 replace H := Option.bind_eq_some_iff.mp H
 obtain ⟨⟨t381, t382⟩, A30, H⟩ := H
 replace H : (some (t381 == 0 && (t382 == 0))) = some r := H
 have A3 := zC.mk A30
 clear A30
 obtain rfl := Option.some.inj H
 go_enter Try.func133, Try.ntmps133
 go_wp2_with (first | ((with_reducible refine zP (N := 2) rfl ?_); refine zN ?hg (N := 2) ?hd (cs := #[.int .i64 a0_0, .int .i64 a0_1, .int .i64 a0_2]) (t := 30) ?hr ?_; (case hd => rfl); (case hg => rfl); (case hr => first | (go_simp; done) | (go_simp; rfl)); intro gb379 hg w4 hbox hb; have n0_ := zC.mk (zL (by repeat (first | (with_reducible first | exact HB.out | apply zG | apply zA | apply zD) | exact HB.out)) hb); have n1_ := zC.mk (hbox); have n2_ := zC.mk ((by rw [hg]; exact (zM (by repeat (first | (with_reducible first | exact HB.out | apply zG | apply zA | apply zD) | exact HB.out))) : w.heap.size ≤ gb379)); have n3_ := n2_; clear HB; have HB := n0_; have BK379 := n1_; have GW379 := n2_; have GE379 := n3_; clear n0_ n1_ n2_ n3_; clear hb hbox hg) | ((with_reducible refine zP (N := 3) rfl ?_); refine zN ?hg (N := 3) ?hd (cs := #[.int .i64 a1_0, .int .i64 a1_1]) (t := 50) ?hr ?_; (case hd => rfl); (case hg => rfl); (case hr => first | (go_simp; done) | (go_simp; rfl)); intro gb380 hg w5 hbox hb; have n0_ := zC.mk (zK (g := gb379) (o := .cells #[.int .i64 a0_0, .int .i64 a0_1, .int .i64 a0_2] 30 (0, 0)) (by (with_reducible repeat (first | refine zE ?_ _ | refine zI ?_ | refine zF ?_ _)); exact BK379.out) hb); have n1_ := zC.mk (zL (by repeat (first | (with_reducible first | exact HB.out | apply zG | apply zA | apply zD | refine zH ?_ GE379.out) | exact HB.out)) hb); have n2_ := zC.mk (hbox); have n3_ := zC.mk ((by rw [hg]; exact (zM (by repeat (first | (with_reducible first | exact HB.out | apply zG | apply zA | apply zD | refine zH ?_ GE379.out) | exact HB.out))) : w.heap.size ≤ gb380)); have n4_ := n3_; have n5_ := zC.mk ((by rw [hg]; exact Nat.ne_of_lt (zV (by (with_reducible repeat (first | refine zE ?_ _ | refine zI ?_ | refine zF ?_ _)); exact BK379.out)) : gb379 ≠ gb380)); have n6_ := zC.mk n5_.out.symm; clear BK379; clear HB; have BK379 := n0_; have HB := n1_; have BK380 := n2_; have GW380 := n3_; have GE380 := n4_; have NB379_380 := n5_; have NB380_379 := n6_; clear n0_ n1_ n2_ n3_ n4_ n5_ n6_; clear hb hbox hg; have hnb6 := NB379_380.out; have hnc6 := NB380_379.out; have hcz7_0 : w5.cell? ⟨gb379, 0, none⟩ = some (.int .i64 a0_0) := zB BK379.out 0; have hcz7_1 : w5.cell? ⟨gb379, 1, none⟩ = some (.int .i64 a0_1) := zB BK379.out 1; have hcz7_2 : w5.cell? ⟨gb379, 2, none⟩ = some (.int .i64 a0_2) := zB BK379.out 2; have hfz7_0 := zJ BK379.out 0; have hfz7_1 := zJ BK379.out 1; have hfz7_2 := zJ BK379.out 2; have hcz8_0 : w5.cell? ⟨gb380, 0, none⟩ = some (.int .i64 a1_0) := zB BK380.out 0; have hcz8_1 : w5.cell? ⟨gb380, 1, none⟩ = some (.int .i64 a1_1) := zB BK380.out 1; have hfz8_0 := zJ BK380.out 0; have hfz8_1 := zJ BK380.out 1) | ((with_reducible refine zQ (f := 110) rfl ?_); refine zX (some 7) rfl rfl Try.func110 (by kernel_rfl) rfl #[.agg #[.int .i64 a0_0, .int .i64 a0_1, .int .i64 a0_2], .agg #[.int .i64 a1_0, .int .i64 a1_1]] rfl (by (try simp only [List.map_toArray, List.map_cons, List.map_nil]); first | done | rfl) ?_; (with_reducible refine (xP.calls a0_0 a0_1 a0_2 a1_0 a1_1 t381 t382 _ A3.out).mono ?_); rintro e w9 ⟨rfl, hb⟩; refine ⟨_, rfl, ?_⟩; have n0_ := zC.mk (zK (g := gb379) (o := .cells #[.int .i64 a0_0, .int .i64 a0_1, .int .i64 a0_2] 30 (0, 0)) (by (with_reducible repeat (first | refine zE ?_ _ | refine zI ?_ | refine zF ?_ _)); exact BK379.out) hb); have n1_ := zC.mk (zK (g := gb380) (o := .cells #[.int .i64 a1_0, .int .i64 a1_1] 50 (0, 0)) (by (with_reducible repeat (first | refine zE ?_ _ | refine zI ?_ | refine zF ?_ _)); exact BK380.out) hb); have n2_ := zC.mk (zL (by repeat (first | (with_reducible first | exact HB.out | apply zG | apply zA | apply zD | refine zH ?_ GE379.out | refine zH ?_ GE380.out) | exact HB.out)) hb); clear BK379; clear BK380; clear HB; have BK379 := n0_; have BK380 := n1_; have HB := n2_; clear n0_ n1_ n2_; (try clear hb)))
 go_ret
 exact ⟨by first | rfl | (simp [*, errW_none, errW_some] <;> rfl), by repeat (first | (with_reducible first | exact HB.out | apply zG | apply zA | apply zD | refine zH ?_ GE379.out | refine zH ?_ GE380.out) | exact HB.out)⟩
theorem yK.calls (k : Nat) (a0_0 : Int) (a0_1 : Int) (a0_2 : Int) (a1_0 : Int) (a1_1 : Int) (r1 : Int) (r2 : Int) (w : World) (h : yK.f k a0_0 a0_1 a0_2 a1_0 a1_1 = some (r1, r2)) :
  Calls Try.prog 134 #[.agg #[.int .i64 a0_0, .int .i64 a0_1, .int .i64 a0_2], .agg #[.int .i64 a1_0, .int .i64 a1_1]] w fun e w' => e = .returned (.agg #[.int .i64 r1, .int .i64 r2]) ∧ Below w.heap.size w w' := by
 have hu30 := Try.underlying30
 have hu50 := Try.underlying50
 have HB := zC.mk (Below.refl w.heap.size w)
 have H : (yK.l0 k a0_0 a0_1 a0_2 a1_0 a1_1 a1_0 a1_1) = some (r1, r2) := h
 clear h
 have H' := zC.mk H
 clear H
 go_enter Try.func134, Try.ntmps134
 go_wp2_with (first | ((with_reducible refine zP (N := 2) rfl ?_); refine zN ?hg (N := 2) ?hd (cs := #[.int .i64 a0_0, .int .i64 a0_1, .int .i64 a0_2]) (t := 30) ?hr ?_; (case hd => rfl); (case hg => rfl); (case hr => first | (go_simp; done) | (go_simp; rfl)); intro gb383 hg w3 hbox hb; have n0_ := zC.mk (zL (by repeat (first | (with_reducible first | exact HB.out | apply zG | apply zA | apply zD) | exact HB.out)) hb); have n1_ := zC.mk (hbox); have n2_ := zC.mk ((by rw [hg]; exact (zM (by repeat (first | (with_reducible first | exact HB.out | apply zG | apply zA | apply zD) | exact HB.out))) : w.heap.size ≤ gb383)); have n3_ := n2_; clear HB; have HB := n0_; have BK383 := n1_; have GW383 := n2_; have GE383 := n3_; clear n0_ n1_ n2_ n3_; clear hb hbox hg) | ((with_reducible refine zP (N := 3) rfl ?_); refine zN ?hg (N := 3) ?hd (cs := #[.int .i64 a1_0, .int .i64 a1_1]) (t := 50) ?hr ?_; (case hd => rfl); (case hg => rfl); (case hr => first | (go_simp; done) | (go_simp; rfl)); intro gb384 hg w4 hbox hb; have n0_ := zC.mk (zK (g := gb383) (o := .cells #[.int .i64 a0_0, .int .i64 a0_1, .int .i64 a0_2] 30 (0, 0)) (by (with_reducible repeat (first | refine zE ?_ _ | refine zI ?_ | refine zF ?_ _)); exact BK383.out) hb); have n1_ := zC.mk (zL (by repeat (first | (with_reducible first | exact HB.out | apply zG | apply zA | apply zD | refine zH ?_ GE383.out) | exact HB.out)) hb); have n2_ := zC.mk (hbox); have n3_ := zC.mk ((by rw [hg]; exact (zM (by repeat (first | (with_reducible first | exact HB.out | apply zG | apply zA | apply zD | refine zH ?_ GE383.out) | exact HB.out))) : w.heap.size ≤ gb384)); have n4_ := n3_; have n5_ := zC.mk ((by rw [hg]; exact Nat.ne_of_lt (zV (by (with_reducible repeat (first | refine zE ?_ _ | refine zI ?_ | refine zF ?_ _)); exact BK383.out)) : gb383 ≠ gb384)); have n6_ := zC.mk n5_.out.symm; clear BK383; clear HB; have BK383 := n0_; have HB := n1_; have BK384 := n2_; have GW384 := n3_; have GE384 := n4_; have NB383_384 := n5_; have NB384_383 := n6_; clear n0_ n1_ n2_ n3_ n4_ n5_ n6_; clear hb hbox hg) | ((with_reducible refine zP (N := 4) rfl ?_); refine zN ?hg (N := 4) ?hd (cs := #[.int .i64 0, .int .i64 0]) (t := 50) ?hr ?_; (case hd => rfl); (case hg => rfl); (case hr => first | (go_simp; done) | (go_simp; rfl)); intro gb385 hg w5 hbox hb; have n0_ := zC.mk (zK (g := gb383) (o := .cells #[.int .i64 a0_0, .int .i64 a0_1, .int .i64 a0_2] 30 (0, 0)) (by (with_reducible repeat (first | refine zE ?_ _ | refine zI ?_ | refine zF ?_ _)); exact BK383.out) hb); have n1_ := zC.mk (zK (g := gb384) (o := .cells #[.int .i64 a1_0, .int .i64 a1_1] 50 (0, 0)) (by (with_reducible repeat (first | refine zE ?_ _ | refine zI ?_ | refine zF ?_ _)); exact BK384.out) hb); have n2_ := zC.mk (zL (by repeat (first | (with_reducible first | exact HB.out | apply zG | apply zA | apply zD | refine zH ?_ GE383.out | refine zH ?_ GE384.out) | exact HB.out)) hb); have n3_ := zC.mk (hbox); have n4_ := zC.mk ((by rw [hg]; exact (zM (by repeat (first | (with_reducible first | exact HB.out | apply zG | apply zA | apply zD | refine zH ?_ GE383.out | refine zH ?_ GE384.out) | exact HB.out))) : w.heap.size ≤ gb385)); have n5_ := n4_; have n6_ := zC.mk ((by rw [hg]; exact Nat.ne_of_lt (zV (by (with_reducible repeat (first | refine zE ?_ _ | refine zI ?_ | refine zF ?_ _)); exact BK383.out)) : gb383 ≠ gb385)); have n7_ := zC.mk n6_.out.symm; have n8_ := zC.mk ((by rw [hg]; exact Nat.ne_of_lt (zV (by (with_reducible repeat (first | refine zE ?_ _ | refine zI ?_ | refine zF ?_ _)); exact BK384.out)) : gb384 ≠ gb385)); have n9_ := zC.mk n8_.out.symm; clear BK383; clear BK384; clear HB; have BK383 := n0_; have BK384 := n1_; have HB := n2_; have BK385 := n3_; have GW385 := n4_; have GE385 := n5_; have NB383_385 := n6_; have NB385_383 := n7_; have NB384_385 := n8_; have NB385_384 := n9_; clear n0_ n1_ n2_ n3_ n4_ n5_ n6_ n7_ n8_ n9_; clear hb hbox hg; have hnb6 := NB384_383.out; have hnc6 := NB383_384.out; have hnb7 := NB384_385.out; have hnc7 := NB385_384.out; have hcz8_0 : w5.cell? ⟨gb384, 0, none⟩ = some (.int .i64 a1_0) := zB BK384.out 0; have hcz8_1 : w5.cell? ⟨gb384, 1, none⟩ = some (.int .i64 a1_1) := zB BK384.out 1; have hfz8_0 := zJ BK384.out 0; have hfz8_1 := zJ BK384.out 1) | ((with_reducible refine zP (N := 5) rfl ?_); refine zN ?hg (N := 5) ?hd (cs := #[.int .i64 0, .int .i64 0]) (t := 50) ?hr ?_; (case hd => rfl); (case hg => rfl); (case hr => first | (go_simp; done) | (go_simp; rfl)); intro gb386 hg w9 hbox hb; have n0_ := zC.mk (zK (g := gb383) (o := .cells #[.int .i64 a0_0, .int .i64 a0_1, .int .i64 a0_2] 30 (0, 0)) (by (with_reducible repeat (first | refine zE ?_ _ | refine zI ?_ | refine zF ?_ _)); exact BK383.out) hb); have n1_ := zC.mk (zK (g := gb384) (o := .cells #[.int .i64 a1_0, .int .i64 a1_1] 50 (0, 0)) (by (with_reducible repeat (first | refine zE ?_ _ | refine zI ?_ | refine zF ?_ _)); exact BK384.out) hb); have n2_ := zC.mk (zK (g := gb385) (o := .cells #[.int .i64 0, .int .i64 0] 50 (0, 0)) (by (with_reducible repeat (first | refine zE ?_ _ | refine zI ?_ | refine zF ?_ _)); exact BK385.out) hb); have n3_ := zC.mk (zL (by repeat (first | (with_reducible first | exact HB.out | apply zG | apply zA | apply zD | refine zH ?_ GE383.out | refine zH ?_ GE384.out | refine zH ?_ GE385.out) | exact HB.out)) hb); have n4_ := zC.mk (hbox); have n5_ := zC.mk ((by rw [hg]; exact (zM (by repeat (first | (with_reducible first | exact HB.out | apply zG | apply zA | apply zD | refine zH ?_ GE383.out | refine zH ?_ GE384.out | refine zH ?_ GE385.out) | exact HB.out))) : w.heap.size ≤ gb386)); have n6_ := n5_; have n7_ := zC.mk ((by rw [hg]; exact Nat.ne_of_lt (zV (by (with_reducible repeat (first | refine zE ?_ _ | refine zI ?_ | refine zF ?_ _)); exact BK383.out)) : gb383 ≠ gb386)); have n8_ := zC.mk n7_.out.symm; have n9_ := zC.mk ((by rw [hg]; exact Nat.ne_of_lt (zV (by (with_reducible repeat (first | refine zE ?_ _ | refine zI ?_ | refine zF ?_ _)); exact BK384.out)) : gb384 ≠ gb386)); have n10_ := zC.mk n9_.out.symm; have n11_ := zC.mk ((by rw [hg]; exact Nat.ne_of_lt (zV (by (with_reducible repeat (first | refine zE ?_ _ | refine zI ?_ | refine zF ?_ _)); exact BK385.out)) : gb385 ≠ gb386)); have n12_ := zC.mk n11_.out.symm; clear BK383; clear BK384; clear BK385; clear HB; have BK383 := n0_; have BK384 := n1_; have BK385 := n2_; have HB := n3_; have BK386 := n4_; have GW386 := n5_; have GE386 := n6_; have NB383_386 := n7_; have NB386_383 := n8_; have NB384_386 := n9_; have NB386_384 := n10_; have NB385_386 := n11_; have NB386_385 := n12_; clear n0_ n1_ n2_ n3_ n4_ n5_ n6_ n7_ n8_ n9_ n10_ n11_ n12_; clear hb hbox hg; have hnb10 := NB386_383.out; have hnc10 := NB383_386.out; have hnb11 := NB386_384.out; have hnc11 := NB384_386.out; have hnb12 := NB386_385.out; have hnc12 := NB385_386.out; have hcz13_0 : w9.cell? ⟨gb386, 0, none⟩ = some (.int .i64 0) := zB BK386.out 0; have hcz13_1 : w9.cell? ⟨gb386, 1, none⟩ = some (.int .i64 0) := zB BK386.out 1; have hfz13_0 := zJ BK386.out 0; have hfz13_1 := zJ BK386.out 1))
 go_loopg [] k (fun kq w' => ∃ (x387000_1 : Int) (x387001_1 : Int), zC (yK.l0 kq a0_0 a0_1 a0_2 a1_0 a1_1 x387000_1 x387001_1 = some (r1, r2)) ∧ zC (kq ≤ k) ∧ zC (w'.heap[gb383]? = some (.cells #[.int .i64 a0_0, .int .i64 a0_1, .int .i64 a0_2] 30 (0, 0))) ∧ zC (w'.heap[gb384]? = some (.cells #[.int .i64 a1_0, .int .i64 a1_1] 50 (0, 0))) ∧ zC (w'.heap[gb385]? = some (.cells #[.int .i64 0, .int .i64 0] 50 (0, 0))) ∧ zC (w'.heap[gb386]? = some (.cells #[.int .i64 x387000_1, .int .i64 x387001_1] 50 (0, 0))) ∧ zC (Below w.heap.size w w'))
 case atStart => exact ⟨(a1_0), (a1_1), H', ⟨Nat.le_refl _⟩, ⟨by (with_reducible repeat (first | refine zE ?_ _ | refine zI ?_ | refine zF ?_ _)); refine zU ?_ NB383_386.out _; (with_reducible repeat (first | refine zE ?_ _ | refine zI ?_ | refine zF ?_ _)); refine zU ?_ NB383_386.out _; (with_reducible repeat (first | refine zE ?_ _ | refine zI ?_ | refine zF ?_ _)); exact BK383.out⟩, ⟨by (with_reducible repeat (first | refine zE ?_ _ | refine zI ?_ | refine zF ?_ _)); refine zU ?_ NB384_386.out _; (with_reducible repeat (first | refine zE ?_ _ | refine zI ?_ | refine zF ?_ _)); refine zU ?_ NB384_386.out _; (with_reducible repeat (first | refine zE ?_ _ | refine zI ?_ | refine zF ?_ _)); exact BK384.out⟩, ⟨by (with_reducible repeat (first | refine zE ?_ _ | refine zI ?_ | refine zF ?_ _)); refine zU ?_ NB385_386.out _; (with_reducible repeat (first | refine zE ?_ _ | refine zI ?_ | refine zF ?_ _)); refine zU ?_ NB385_386.out _; (with_reducible repeat (first | refine zE ?_ _ | refine zI ?_ | refine zF ?_ _)); exact BK385.out⟩, ⟨by (with_reducible repeat (first | refine zE ?_ _ | refine zI ?_ | refine zF ?_ _)); refine zS (cs := #[.int .i64 a1_0, .int .i64 0]) ?_ 1 _ rfl; (with_reducible repeat (first | refine zE ?_ _ | refine zI ?_ | refine zF ?_ _)); refine zS (cs := #[.int .i64 0, .int .i64 0]) ?_ 0 _ rfl; (with_reducible repeat (first | refine zE ?_ _ | refine zI ?_ | refine zF ?_ _)); exact BK386.out⟩, ⟨by repeat (first | (with_reducible first | exact HB.out | apply zG | apply zA | apply zD | refine zH ?_ GE383.out | refine zH ?_ GE384.out | refine zH ?_ GE385.out | refine zH ?_ GE386.out) | exact HB.out)⟩⟩
 case round =>
  clear H'
  try clear c1
  try clear p2
  try clear c6
  try clear c7
  try clear c10
  try clear c11
  try clear c12
  try clear c13
  try clear hcz13_0
  try clear hcz13_1
  try clear hcz8_0
  try clear hcz8_1
  try clear hfz13_0
  try clear hfz13_1
  try clear hfz8_0
  try clear hfz8_1
  obtain ⟨x387000_1, x387001_1, HA, HK1, BK383, BK384, BK385, BK386, HB⟩ := hrel
  cases gk with
  | zero => exact absurd HA.out (by simp [yK.l0])
  | succ k1 =>
   have H := HA.out
   clear HA
   simp only [yK.l0] at H
   replace H := Option.bind_eq_some_iff.mp H
   obtain ⟨t387, A140, H⟩ := H
   replace H : (if t387 = true then (some (x387000_1, x387001_1)) else ((xY.f x387000_1 x387001_1 a1_0 a1_1).bind fun bt388 => (yK.l0 k1 a0_0 a0_1 a0_2 a1_0 a1_1 bt388.1 bt388.2))) = some (r1, r2) := H
   have A14 := zC.mk A140
   clear A140
   by_cases c15 : t387 = true
   ·
    subst c15
    have H1 : (some (x387000_1, x387001_1)) = some (r1, r2) := by rw [if_pos rfl] at H; exact H
    clear H
    have H := H1
    clear H1
    simp only [Option.some.injEq, Prod.mk.injEq] at H
    obtain ⟨rfl, rfl⟩ := H
    have hnb16 := NB383_384.out
    have hnc16 := NB384_383.out
    have hnb17 := NB383_385.out
    have hnc17 := NB385_383.out
    have hnb18 := NB383_386.out
    have hnc18 := NB386_383.out
    have hcz19_0 : wr.cell? ⟨gb383, 0, none⟩ = some (.int .i64 a0_0) := zB BK383.out 0
    have hcz19_1 : wr.cell? ⟨gb383, 1, none⟩ = some (.int .i64 a0_1) := zB BK383.out 1
    have hcz19_2 : wr.cell? ⟨gb383, 2, none⟩ = some (.int .i64 a0_2) := zB BK383.out 2
    have hfz19_0 := zJ BK383.out 0
    have hfz19_1 := zJ BK383.out 1
    have hfz19_2 := zJ BK383.out 2
    have hnb20 := NB386_384.out
    have hnc20 := NB384_386.out
    have hnb21 := NB386_385.out
    have hnc21 := NB385_386.out
    have hcz22_0 : wr.cell? ⟨gb386, 0, none⟩ = some (.int .i64 x387000_1) := zB BK386.out 0
    have hcz22_1 : wr.cell? ⟨gb386, 1, none⟩ = some (.int .i64 x387001_1) := zB BK386.out 1
    have hfz22_0 := zJ BK386.out 0
    have hfz22_1 := zJ BK386.out 1
    go_wp2_with (first | ((with_reducible refine zQ (f := 133) rfl ?_); refine zX (some 9) rfl rfl Try.func133 (by kernel_rfl) rfl #[.agg #[.int .i64 a0_0, .int .i64 a0_1, .int .i64 a0_2], .agg #[.int .i64 x387000_1, .int .i64 x387001_1]] rfl (by (try simp only [List.map_toArray, List.map_cons, List.map_nil]); first | done | rfl) ?_; (with_reducible refine (wB.calls a0_0 a0_1 a0_2 x387000_1 x387001_1 true _ A14.out).mono ?_); rintro e w23 ⟨rfl, hb⟩; refine ⟨_, rfl, ?_⟩; have n0_ := zC.mk (zK (g := gb383) (o := .cells #[.int .i64 a0_0, .int .i64 a0_1, .int .i64 a0_2] 30 (0, 0)) (by (with_reducible repeat (first | refine zE ?_ _ | refine zI ?_ | refine zF ?_ _)); exact BK383.out) hb); have n1_ := zC.mk (zK (g := gb384) (o := .cells #[.int .i64 a1_0, .int .i64 a1_1] 50 (0, 0)) (by (with_reducible repeat (first | refine zE ?_ _ | refine zI ?_ | refine zF ?_ _)); exact BK384.out) hb); have n2_ := zC.mk (zK (g := gb385) (o := .cells #[.int .i64 0, .int .i64 0] 50 (0, 0)) (by (with_reducible repeat (first | refine zE ?_ _ | refine zI ?_ | refine zF ?_ _)); exact BK385.out) hb); have n3_ := zC.mk (zK (g := gb386) (o := .cells #[.int .i64 x387000_1, .int .i64 x387001_1] 50 (0, 0)) (by (with_reducible repeat (first | refine zE ?_ _ | refine zI ?_ | refine zF ?_ _)); exact BK386.out) hb); have n4_ := zC.mk (zL (by repeat (first | (with_reducible first | exact HB.out | apply zG | apply zA | apply zD | refine zH ?_ GE383.out | refine zH ?_ GE384.out | refine zH ?_ GE385.out | refine zH ?_ GE386.out) | exact HB.out)) hb); clear BK383; clear BK384; clear BK385; clear BK386; clear HB; have BK383 := n0_; have BK384 := n1_; have BK385 := n2_; have BK386 := n3_; have HB := n4_; clear n0_ n1_ n2_ n3_ n4_; (try clear hb); have hcz24_0 : w23.cell? ⟨gb386, 0, none⟩ = some (.int .i64 x387000_1) := zB BK386.out 0; have hcz24_1 : w23.cell? ⟨gb386, 1, none⟩ = some (.int .i64 x387001_1) := zB BK386.out 1; have hfz24_0 := zJ BK386.out 0; have hfz24_1 := zJ BK386.out 1; have hnb25 := NB385_384.out; have hnc25 := NB384_385.out; have hcz26_0 : w23.cell? ⟨gb385, 0, none⟩ = some (.int .i64 0) := zB BK385.out 0; have hcz26_1 : w23.cell? ⟨gb385, 1, none⟩ = some (.int .i64 0) := zB BK385.out 1; have hfz26_0 := zJ BK385.out 0; have hfz26_1 := zJ BK385.out 1))
    refine bodyPost_ret (results_cell_row rfl _ _ gb385 50 #[.int .i64 x387000_1, .int .i64 x387001_1] (0, 0) _ rfl (by (with_reducible repeat (first | refine zE ?_ _ | refine zI ?_ | refine zF ?_ _)); refine zS (cs := #[.int .i64 x387000_1, .int .i64 0]) ?_ 1 _ rfl; (with_reducible repeat (first | refine zE ?_ _ | refine zI ?_ | refine zF ?_ _)); refine zS (cs := #[.int .i64 0, .int .i64 0]) ?_ 0 _ rfl; (with_reducible repeat (first | refine zE ?_ _ | refine zI ?_ | refine zF ?_ _)); exact BK385.out) Try.underlying50 rfl (by kernel_rfl)) rfl ?_
    exact ⟨by first | rfl | (simp [*, errW_none, errW_some] <;> rfl), by repeat (first | (with_reducible first | exact HB.out | apply zG | apply zA | apply zD | refine zH ?_ GE383.out | refine zH ?_ GE384.out | refine zH ?_ GE385.out | refine zH ?_ GE386.out) | exact HB.out)⟩
   ·
    replace c15 := Bool.eq_false_iff.mpr c15
    subst c15
    have H1 : ((xY.f x387000_1 x387001_1 a1_0 a1_1).bind fun bt388 => (yK.l0 k1 a0_0 a0_1 a0_2 a1_0 a1_1 bt388.1 bt388.2)) = some (r1, r2) := by rw [if_neg (show ¬ (false = true) by decide)] at H; exact H
    clear H
    have H := H1
    clear H1
    replace H := Option.bind_eq_some_iff.mp H
    obtain ⟨⟨t388, t389⟩, A270, H⟩ := H
    replace H : (yK.l0 k1 a0_0 a0_1 a0_2 a1_0 a1_1 t388 t389) = some (r1, r2) := H
    have A27 := zC.mk A270
    clear A270
    have H' := zC.mk H
    clear H
    have hnb28 := NB383_384.out
    have hnc28 := NB384_383.out
    have hnb29 := NB383_385.out
    have hnc29 := NB385_383.out
    have hnb30 := NB383_386.out
    have hnc30 := NB386_383.out
    have hcz31_0 : wr.cell? ⟨gb383, 0, none⟩ = some (.int .i64 a0_0) := zB BK383.out 0
    have hcz31_1 : wr.cell? ⟨gb383, 1, none⟩ = some (.int .i64 a0_1) := zB BK383.out 1
    have hcz31_2 : wr.cell? ⟨gb383, 2, none⟩ = some (.int .i64 a0_2) := zB BK383.out 2
    have hfz31_0 := zJ BK383.out 0
    have hfz31_1 := zJ BK383.out 1
    have hfz31_2 := zJ BK383.out 2
    have hnb32 := NB386_384.out
    have hnc32 := NB384_386.out
    have hnb33 := NB386_385.out
    have hnc33 := NB385_386.out
    have hcz34_0 : wr.cell? ⟨gb386, 0, none⟩ = some (.int .i64 x387000_1) := zB BK386.out 0
    have hcz34_1 : wr.cell? ⟨gb386, 1, none⟩ = some (.int .i64 x387001_1) := zB BK386.out 1
    have hfz34_0 := zJ BK386.out 0
    have hfz34_1 := zJ BK386.out 1
    go_wp2_with (first | ((with_reducible refine zQ (f := 133) rfl ?_); refine zX (some 9) rfl rfl Try.func133 (by kernel_rfl) rfl #[.agg #[.int .i64 a0_0, .int .i64 a0_1, .int .i64 a0_2], .agg #[.int .i64 x387000_1, .int .i64 x387001_1]] rfl (by (try simp only [List.map_toArray, List.map_cons, List.map_nil]); first | done | rfl) ?_; (with_reducible refine (wB.calls a0_0 a0_1 a0_2 x387000_1 x387001_1 false _ A14.out).mono ?_); rintro e w35 ⟨rfl, hb⟩; refine ⟨_, rfl, ?_⟩; have n0_ := zC.mk (zK (g := gb383) (o := .cells #[.int .i64 a0_0, .int .i64 a0_1, .int .i64 a0_2] 30 (0, 0)) (by (with_reducible repeat (first | refine zE ?_ _ | refine zI ?_ | refine zF ?_ _)); exact BK383.out) hb); have n1_ := zC.mk (zK (g := gb384) (o := .cells #[.int .i64 a1_0, .int .i64 a1_1] 50 (0, 0)) (by (with_reducible repeat (first | refine zE ?_ _ | refine zI ?_ | refine zF ?_ _)); exact BK384.out) hb); have n2_ := zC.mk (zK (g := gb385) (o := .cells #[.int .i64 0, .int .i64 0] 50 (0, 0)) (by (with_reducible repeat (first | refine zE ?_ _ | refine zI ?_ | refine zF ?_ _)); exact BK385.out) hb); have n3_ := zC.mk (zK (g := gb386) (o := .cells #[.int .i64 x387000_1, .int .i64 x387001_1] 50 (0, 0)) (by (with_reducible repeat (first | refine zE ?_ _ | refine zI ?_ | refine zF ?_ _)); exact BK386.out) hb); have n4_ := zC.mk (zL (by repeat (first | (with_reducible first | exact HB.out | apply zG | apply zA | apply zD | refine zH ?_ GE383.out | refine zH ?_ GE384.out | refine zH ?_ GE385.out | refine zH ?_ GE386.out) | exact HB.out)) hb); clear BK383; clear BK384; clear BK385; clear BK386; clear HB; have BK383 := n0_; have BK384 := n1_; have BK385 := n2_; have BK386 := n3_; have HB := n4_; clear n0_ n1_ n2_ n3_ n4_; (try clear hb); have hcz36_0 : w35.cell? ⟨gb386, 0, none⟩ = some (.int .i64 x387000_1) := zB BK386.out 0; have hcz36_1 : w35.cell? ⟨gb386, 1, none⟩ = some (.int .i64 x387001_1) := zB BK386.out 1; have hfz36_0 := zJ BK386.out 0; have hfz36_1 := zJ BK386.out 1; have hnb37 := NB384_385.out; have hnc37 := NB385_384.out; have hcz38_0 : w35.cell? ⟨gb384, 0, none⟩ = some (.int .i64 a1_0) := zB BK384.out 0; have hcz38_1 : w35.cell? ⟨gb384, 1, none⟩ = some (.int .i64 a1_1) := zB BK384.out 1; have hfz38_0 := zJ BK384.out 0; have hfz38_1 := zJ BK384.out 1) | ((with_reducible refine zQ (f := 149) rfl ?_); refine zX (some 13) rfl rfl Try.func149 (by kernel_rfl) rfl #[.agg #[.int .i64 x387000_1, .int .i64 x387001_1], .agg #[.int .i64 a1_0, .int .i64 a1_1]] rfl (by (try simp only [List.map_toArray, List.map_cons, List.map_nil]); first | done | rfl) ?_; (with_reducible refine (xY.calls x387000_1 x387001_1 a1_0 a1_1 t388 t389 _ A27.out).mono ?_); rintro e w39 ⟨rfl, hb⟩; refine ⟨_, rfl, ?_⟩; have n0_ := zC.mk (zK (g := gb383) (o := .cells #[.int .i64 a0_0, .int .i64 a0_1, .int .i64 a0_2] 30 (0, 0)) (by (with_reducible repeat (first | refine zE ?_ _ | refine zI ?_ | refine zF ?_ _)); exact BK383.out) hb); have n1_ := zC.mk (zK (g := gb384) (o := .cells #[.int .i64 a1_0, .int .i64 a1_1] 50 (0, 0)) (by (with_reducible repeat (first | refine zE ?_ _ | refine zI ?_ | refine zF ?_ _)); exact BK384.out) hb); have n2_ := zC.mk (zK (g := gb385) (o := .cells #[.int .i64 0, .int .i64 0] 50 (0, 0)) (by (with_reducible repeat (first | refine zE ?_ _ | refine zI ?_ | refine zF ?_ _)); exact BK385.out) hb); have n3_ := zC.mk (zK (g := gb386) (o := .cells #[.int .i64 x387000_1, .int .i64 x387001_1] 50 (0, 0)) (by (with_reducible repeat (first | refine zE ?_ _ | refine zI ?_ | refine zF ?_ _)); exact BK386.out) hb); have n4_ := zC.mk (zL (by repeat (first | (with_reducible first | exact HB.out | apply zG | apply zA | apply zD | refine zH ?_ GE383.out | refine zH ?_ GE384.out | refine zH ?_ GE385.out | refine zH ?_ GE386.out) | exact HB.out)) hb); clear BK383; clear BK384; clear BK385; clear BK386; clear HB; have BK383 := n0_; have BK384 := n1_; have BK385 := n2_; have BK386 := n3_; have HB := n4_; clear n0_ n1_ n2_ n3_ n4_; (try clear hb); have hcz40_0 : w39.cell? ⟨gb386, 0, none⟩ = some (.int .i64 x387000_1) := zB BK386.out 0; have hcz40_1 : w39.cell? ⟨gb386, 1, none⟩ = some (.int .i64 x387001_1) := zB BK386.out 1; have hfz40_0 := zJ BK386.out 0; have hfz40_1 := zJ BK386.out 1))
    go_roundg k1
    case measure => have := HK1.out; omega
    case rel => exact ⟨(t388), (t389), H', ⟨by have := HK1.out; omega⟩, ⟨by (with_reducible repeat (first | refine zE ?_ _ | refine zI ?_ | refine zF ?_ _)); refine zU ?_ NB383_386.out _; (with_reducible repeat (first | refine zE ?_ _ | refine zI ?_ | refine zF ?_ _)); refine zU ?_ NB383_386.out _; (with_reducible repeat (first | refine zE ?_ _ | refine zI ?_ | refine zF ?_ _)); exact BK383.out⟩, ⟨by (with_reducible repeat (first | refine zE ?_ _ | refine zI ?_ | refine zF ?_ _)); refine zU ?_ NB384_386.out _; (with_reducible repeat (first | refine zE ?_ _ | refine zI ?_ | refine zF ?_ _)); refine zU ?_ NB384_386.out _; (with_reducible repeat (first | refine zE ?_ _ | refine zI ?_ | refine zF ?_ _)); exact BK384.out⟩, ⟨by (with_reducible repeat (first | refine zE ?_ _ | refine zI ?_ | refine zF ?_ _)); refine zU ?_ NB385_386.out _; (with_reducible repeat (first | refine zE ?_ _ | refine zI ?_ | refine zF ?_ _)); refine zU ?_ NB385_386.out _; (with_reducible repeat (first | refine zE ?_ _ | refine zI ?_ | refine zF ?_ _)); exact BK385.out⟩, ⟨by (with_reducible repeat (first | refine zE ?_ _ | refine zI ?_ | refine zF ?_ _)); refine zS (cs := #[.int .i64 t388, .int .i64 x387001_1]) ?_ 1 _ rfl; (with_reducible repeat (first | refine zE ?_ _ | refine zI ?_ | refine zF ?_ _)); refine zS (cs := #[.int .i64 x387000_1, .int .i64 x387001_1]) ?_ 0 _ rfl; (with_reducible repeat (first | refine zE ?_ _ | refine zI ?_ | refine zF ?_ _)); exact BK386.out⟩, ⟨by repeat (first | (with_reducible first | exact HB.out | apply zG | apply zA | apply zD | refine zH ?_ GE383.out | refine zH ?_ GE384.out | refine zH ?_ GE385.out | refine zH ?_ GE386.out) | exact HB.out)⟩⟩
theorem fld96_50_0 (a b : Int) (w : World) : (Instr.field 50 (.agg #[.int .i64 a, .int .i64 b]) 0).run Try.prog w = .ok (.int .i64 a) w := by kernel_rfl
theorem fld96_50_1 (a b : Int) (w : World) : (Instr.field 50 (.agg #[.int .i64 a, .int .i64 b]) 1).run Try.prog w = .ok (.int .i64 b) w := by kernel_rfl
attribute [local go_sem] fld96_50_0 fld96_50_1
theorem xC.calls (k : Nat) (a0_0 : Int) (a0_1 : Int) (a0_2 : Int) (r : Int) (w : World) (h : xC.f k a0_0 a0_1 a0_2 = some r) :
  Calls Try.prog 96 #[.agg #[.int .i64 a0_0, .int .i64 a0_1, .int .i64 a0_2]] w fun e w' => e = .returned (.int .i64 r) ∧ Below w.heap.size w w' := by
 have hu30 := Try.underlying30
 have hu50 := Try.underlying50
 have HB := zC.mk (Below.refl w.heap.size w)
 have H : ((yK.f k a0_0 a0_1 a0_2 0 1).bind fun bt391 => (some bt391.2)) = some r := h
 clear h
 replace H := Option.bind_eq_some_iff.mp H
 obtain ⟨⟨t391, t392⟩, A20, H⟩ := H
 replace H : (some t392) = some r := H
 have A2 := zC.mk A20
 clear A20
 obtain rfl := Option.some.inj H
 go_enter Try.func96, Try.ntmps96
 go_wp2_with (first | ((with_reducible refine zP (N := 1) rfl ?_); refine zN ?hg (N := 1) ?hd (cs := #[.int .i64 a0_0, .int .i64 a0_1, .int .i64 a0_2]) (t := 30) ?hr ?_; (case hd => rfl); (case hg => rfl); (case hr => first | (go_simp; done) | (go_simp; rfl)); intro gb390 hg w3 hbox hb; have n0_ := zC.mk (zL (by repeat (first | (with_reducible first | exact HB.out | apply zG | apply zA | apply zD) | exact HB.out)) hb); have n1_ := zC.mk (hbox); have n2_ := zC.mk ((by rw [hg]; exact (zM (by repeat (first | (with_reducible first | exact HB.out | apply zG | apply zA | apply zD) | exact HB.out))) : w.heap.size ≤ gb390)); have n3_ := n2_; clear HB; have HB := n0_; have BK390 := n1_; have GW390 := n2_; have GE390 := n3_; clear n0_ n1_ n2_ n3_; clear hb hbox hg; have hcz4_0 : w3.cell? ⟨gb390, 0, none⟩ = some (.int .i64 a0_0) := zB BK390.out 0; have hcz4_1 : w3.cell? ⟨gb390, 1, none⟩ = some (.int .i64 a0_1) := zB BK390.out 1; have hcz4_2 : w3.cell? ⟨gb390, 2, none⟩ = some (.int .i64 a0_2) := zB BK390.out 2; have hfz4_0 := zJ BK390.out 0; have hfz4_1 := zJ BK390.out 1; have hfz4_2 := zJ BK390.out 2) | ((with_reducible refine zQ (f := 134) rfl ?_); refine zX (some 5) rfl rfl Try.func134 (by kernel_rfl) rfl #[.agg #[.int .i64 a0_0, .int .i64 a0_1, .int .i64 a0_2], .agg #[.int .i64 0, .int .i64 1]] rfl (by (try simp only [List.map_toArray, List.map_cons, List.map_nil]); first | done | rfl) ?_; (with_reducible refine (yK.calls k a0_0 a0_1 a0_2 0 1 t391 t392 _ A2.out).mono ?_); rintro e w5 ⟨rfl, hb⟩; refine ⟨_, rfl, ?_⟩; have n0_ := zC.mk (zK (g := gb390) (o := .cells #[.int .i64 a0_0, .int .i64 a0_1, .int .i64 a0_2] 30 (0, 0)) (by (with_reducible repeat (first | refine zE ?_ _ | refine zI ?_ | refine zF ?_ _)); exact BK390.out) hb); have n1_ := zC.mk (zL (by repeat (first | (with_reducible first | exact HB.out | apply zG | apply zA | apply zD | refine zH ?_ GE390.out) | exact HB.out)) hb); clear BK390; clear HB; have BK390 := n0_; have HB := n1_; clear n0_ n1_; (try clear hb)))
 go_ret
 exact ⟨by first | rfl | (simp [*, errW_none, errW_some] <;> rfl), by repeat (first | (with_reducible first | exact HB.out | apply zG | apply zA | apply zD | refine zH ?_ GE390.out) | exact HB.out)⟩
theorem yO.calls (k : Nat) (a0_0 : Int) (a0_1 : Int) (a0_2 : Int) (a1 : Int) (r : Int) (w : World) (h : yO.f k a0_0 a0_1 a0_2 a1 = some r) :
  Calls Try.prog 95 #[.agg #[.int .i64 a0_0, .int .i64 a0_1, .int .i64 a0_2], .int .i64 a1] w fun e w' => e = .returned (.int .i64 r) ∧ Below w.heap.size w w' := by
 have hu30 := Try.underlying30
 have hu50 := Try.underlying50
 have HB := zC.mk (Below.refl w.heap.size w)
 have H : ((xC.f k a0_0 a0_1 a0_2).bind fun t394 => (yO.l0 k a1 t394 0 a0_0 a0_1 a0_2)) = some r := h
 clear h
 replace H := Option.bind_eq_some_iff.mp H
 obtain ⟨t394, A30, H⟩ := H
 replace H : (yO.l0 k a1 t394 0 a0_0 a0_1 a0_2) = some r := H
 have A3 := zC.mk A30
 clear A30
 have H' := zC.mk H
 clear H
 go_enter Try.func95, Try.ntmps95
 go_wp2_with (first | ((with_reducible refine zP (N := 2) rfl ?_); refine zN ?hg (N := 2) ?hd (cs := #[.int .i64 a0_0, .int .i64 a0_1, .int .i64 a0_2]) (t := 30) ?hr ?_; (case hd => rfl); (case hg => rfl); (case hr => first | (go_simp; done) | (go_simp; rfl)); intro gb393 hg w4 hbox hb; have n0_ := zC.mk (zL (by repeat (first | (with_reducible first | exact HB.out | apply zG | apply zA | apply zD) | exact HB.out)) hb); have n1_ := zC.mk (hbox); have n2_ := zC.mk ((by rw [hg]; exact (zM (by repeat (first | (with_reducible first | exact HB.out | apply zG | apply zA | apply zD) | exact HB.out))) : w.heap.size ≤ gb393)); have n3_ := n2_; clear HB; have HB := n0_; have BK393 := n1_; have GW393 := n2_; have GE393 := n3_; clear n0_ n1_ n2_ n3_; clear hb hbox hg; have hcz5_0 : w4.cell? ⟨gb393, 0, none⟩ = some (.int .i64 a0_0) := zB BK393.out 0; have hcz5_1 : w4.cell? ⟨gb393, 1, none⟩ = some (.int .i64 a0_1) := zB BK393.out 1; have hcz5_2 : w4.cell? ⟨gb393, 2, none⟩ = some (.int .i64 a0_2) := zB BK393.out 2; have hfz5_0 := zJ BK393.out 0; have hfz5_1 := zJ BK393.out 1; have hfz5_2 := zJ BK393.out 2) | ((with_reducible refine zQ (f := 96) rfl ?_); refine zX (some 7) rfl rfl Try.func96 (by kernel_rfl) rfl #[.agg #[.int .i64 a0_0, .int .i64 a0_1, .int .i64 a0_2]] rfl (by (try simp only [List.map_toArray, List.map_cons, List.map_nil]); first | done | rfl) ?_; (with_reducible refine (xC.calls k a0_0 a0_1 a0_2 t394 _ A3.out).mono ?_); rintro e w6 ⟨rfl, hb⟩; refine ⟨_, rfl, ?_⟩; have n0_ := zC.mk (zK (g := gb393) (o := .cells #[.int .i64 a0_0, .int .i64 a0_1, .int .i64 a0_2] 30 (0, 0)) (by (with_reducible repeat (first | refine zE ?_ _ | refine zI ?_ | refine zF ?_ _)); exact BK393.out) hb); have n1_ := zC.mk (zL (by repeat (first | (with_reducible first | exact HB.out | apply zG | apply zA | apply zD | refine zH ?_ GE393.out) | exact HB.out)) hb); clear BK393; clear HB; have BK393 := n0_; have HB := n1_; clear n0_ n1_; (try clear hb)))
 go_loopg [8] k (fun kq v8 w' => ∃ (x8_1 : Int), v8 = .int .i64 x8_1 ∧ zC (yO.l0 kq a1 t394 x8_1 a0_0 a0_1 a0_2 = some r) ∧ zC (kq ≤ k) ∧ zC (w'.heap[gb393]? = some (.cells #[.int .i64 a0_0, .int .i64 a0_1, .int .i64 a0_2] 30 (0, 0))) ∧ zC (Below w.heap.size w w'))
 case atStart => exact ⟨(0), (by first | rfl | (simp; done) | (simp [*]; done)), H', ⟨Nat.le_refl _⟩, ⟨by (with_reducible repeat (first | refine zE ?_ _ | refine zI ?_ | refine zF ?_ _)); exact BK393.out⟩, ⟨by repeat (first | (with_reducible first | exact HB.out | apply zG | apply zA | apply zD | refine zH ?_ GE393.out) | exact HB.out)⟩⟩
 case round =>
  clear H'
  try clear p2
  try clear hcz5_0
  try clear hcz5_1
  try clear hcz5_2
  try clear hfz5_0
  try clear hfz5_1
  try clear hfz5_2
  obtain ⟨x8_1, rfl, HA, HK1, BK393, HB⟩ := hrel
  cases gk with
  | zero => exact absurd HA.out (by simp [yO.l0])
  | succ k1 =>
   have H := HA.out
   clear HA
   simp only [yO.l0] at H
   by_cases c7 : x8_1 < t394
   ·
    rw [if_pos c7] at H
    have c7b0 : decide (x8_1 < t394) = true := decide_eq_true c7
    clear c7
    replace H := Option.bind_eq_some_iff.mp H
    obtain ⟨t395, A80, H⟩ := H
    replace H : (if t395 = true then (some x8_1) else (yO.l0 k1 a1 t394 (wrap64 (x8_1 + 1)) a0_0 a0_1 a0_2)) = some r := H
    have A8 := zC.mk A80
    clear A80
    by_cases c9 : t395 = true
    ·
     subst c9
     have H1 : (some x8_1) = some r := by rw [if_pos rfl] at H; exact H
     clear H
     have H := H1
     clear H1
     obtain rfl := Option.some.inj H
     have hcz10_0 : wr.cell? ⟨gb393, 0, none⟩ = some (.int .i64 a0_0) := zB BK393.out 0
     have hcz10_1 : wr.cell? ⟨gb393, 1, none⟩ = some (.int .i64 a0_1) := zB BK393.out 1
     have hcz10_2 : wr.cell? ⟨gb393, 2, none⟩ = some (.int .i64 a0_2) := zB BK393.out 2
     have hfz10_0 := zJ BK393.out 0
     have hfz10_1 := zJ BK393.out 1
     have hfz10_2 := zJ BK393.out 2
     go_wp2_with (first | ((with_reducible refine zQ (f := 133) rfl ?_); refine zX (some 16) rfl rfl Try.func133 (by kernel_rfl) rfl #[.agg #[.int .i64 a0_0, .int .i64 a0_1, .int .i64 a0_2], .agg #[.int .i64 a1, .int .i64 (wrap64 (-x8_1))]] rfl (by (try simp only [List.map_toArray, List.map_cons, List.map_nil]); first | done | rfl) ?_; (with_reducible refine (wB.calls a0_0 a0_1 a0_2 a1 (wrap64 (-x8_1)) true _ A8.out).mono ?_); rintro e w11 ⟨rfl, hb⟩; refine ⟨_, rfl, ?_⟩; have n0_ := zC.mk (zK (g := gb393) (o := .cells #[.int .i64 a0_0, .int .i64 a0_1, .int .i64 a0_2] 30 (0, 0)) (by (with_reducible repeat (first | refine zE ?_ _ | refine zI ?_ | refine zF ?_ _)); exact BK393.out) hb); have n1_ := zC.mk (zL (by repeat (first | (with_reducible first | exact HB.out | apply zG | apply zA | apply zD | refine zH ?_ GE393.out) | exact HB.out)) hb); clear BK393; clear HB; have BK393 := n0_; have HB := n1_; clear n0_ n1_; (try clear hb)))
     go_ret
     exact ⟨by first | rfl | (simp [*, errW_none, errW_some] <;> rfl), by repeat (first | (with_reducible first | exact HB.out | apply zG | apply zA | apply zD | refine zH ?_ GE393.out) | exact HB.out)⟩
    ·
     replace c9 := Bool.eq_false_iff.mpr c9
     subst c9
     have H1 : (yO.l0 k1 a1 t394 (wrap64 (x8_1 + 1)) a0_0 a0_1 a0_2) = some r := by rw [if_neg (show ¬ (false = true) by decide)] at H; exact H
     clear H
     have H := H1
     clear H1
     have H' := zC.mk H
     clear H
     have hcz12_0 : wr.cell? ⟨gb393, 0, none⟩ = some (.int .i64 a0_0) := zB BK393.out 0
     have hcz12_1 : wr.cell? ⟨gb393, 1, none⟩ = some (.int .i64 a0_1) := zB BK393.out 1
     have hcz12_2 : wr.cell? ⟨gb393, 2, none⟩ = some (.int .i64 a0_2) := zB BK393.out 2
     have hfz12_0 := zJ BK393.out 0
     have hfz12_1 := zJ BK393.out 1
     have hfz12_2 := zJ BK393.out 2
     go_wp2_with (first | ((with_reducible refine zQ (f := 133) rfl ?_); refine zX (some 16) rfl rfl Try.func133 (by kernel_rfl) rfl #[.agg #[.int .i64 a0_0, .int .i64 a0_1, .int .i64 a0_2], .agg #[.int .i64 a1, .int .i64 (wrap64 (-x8_1))]] rfl (by (try simp only [List.map_toArray, List.map_cons, List.map_nil]); first | done | rfl) ?_; (with_reducible refine (wB.calls a0_0 a0_1 a0_2 a1 (wrap64 (-x8_1)) false _ A8.out).mono ?_); rintro e w13 ⟨rfl, hb⟩; refine ⟨_, rfl, ?_⟩; have n0_ := zC.mk (zK (g := gb393) (o := .cells #[.int .i64 a0_0, .int .i64 a0_1, .int .i64 a0_2] 30 (0, 0)) (by (with_reducible repeat (first | refine zE ?_ _ | refine zI ?_ | refine zF ?_ _)); exact BK393.out) hb); have n1_ := zC.mk (zL (by repeat (first | (with_reducible first | exact HB.out | apply zG | apply zA | apply zD | refine zH ?_ GE393.out) | exact HB.out)) hb); clear BK393; clear HB; have BK393 := n0_; have HB := n1_; clear n0_ n1_; (try clear hb)))
     go_roundg k1
     case measure => have := HK1.out; omega
     case rel => exact ⟨(wrap64 (x8_1 + 1)), (by first | rfl | (simp; done) | (simp [*]; done)), H', ⟨by have := HK1.out; omega⟩, ⟨by (with_reducible repeat (first | refine zE ?_ _ | refine zI ?_ | refine zF ?_ _)); exact BK393.out⟩, ⟨by repeat (first | (with_reducible first | exact HB.out | apply zG | apply zA | apply zD | refine zH ?_ GE393.out) | exact HB.out)⟩⟩
   ·
    rw [if_neg c7] at H
    have c7b0 : decide (x8_1 < t394) = false := decide_eq_false c7
    clear c7
    obtain rfl := Option.some.inj H
    go_wp2
    go_ret
    exact ⟨by first | rfl | (simp [*, errW_none, errW_some] <;> rfl), by repeat (first | (with_reducible first | exact HB.out | apply zG | apply zA | apply zD | refine zH ?_ GE393.out) | exact HB.out)⟩
theorem yW.calls (k : Nat) (a0_0 : Int) (a0_1 : Int) (a0_2 : Int) (a0_3 : Int) (A0_4 : Option Addr) (c0_4 : Nat) (l0_4 : List Int) (a1 : Int) (a2 : Bool) (r1 : Int) (r2 : Int) (r3 : Int) (w : World) (hr0_4 : Kd.C (Kd.int .i64) w A0_4 l0_4.length l0_4) (hc0_4 : l0_4.length ≤ c0_4) (h : yW.f k a0_0 a0_1 a0_2 a0_3 l0_4 a1 a2 = some (r1, r2, r3)) :
  Calls Try.prog 57 #[.agg #[.int .i64 a0_0, .int .i64 a0_1, .int .i64 a0_2, .int .i64 a0_3, .slice A0_4 l0_4.length c0_4], .int .i64 a1, .bool a2] w fun e w' => e = .returned (.tuple #[.int .i64 r1, .int .i64 r2, .int .i64 r3]) ∧ Below w.heap.size w w' := by
 have hu32 := Try.underlying32
 have hu30 := Try.underlying30
 have HR0_4 := zC.mk hr0_4
 have HC0_4 := zC.mk hc0_4
 clear hr0_4 hc0_4
 have HB := zC.mk (Below.refl w.heap.size w)
 have H : ((xI.f k a0_0 a0_1 a0_2 a0_3 l0_4).bind fun bt397 => (if bt397.2.2.2 = 0 then ((wD.f a1).bind fun t402 => (if t402 = true then (yW.j0 k a1 (!a2) bt397.1 bt397.2.1 bt397.2.2.1) else (yW.j0 k a1 true bt397.1 bt397.2.1 bt397.2.2.1))) else (some (0, 0, bt397.2.2.2)))) = some (r1, r2, r3) := h
 clear h
 replace H := Option.bind_eq_some_iff.mp H
 obtain ⟨⟨t397, t398, t399, t400⟩, A40, H⟩ := H
 replace H : (if t400 = 0 then ((wD.f a1).bind fun t402 => (if t402 = true then (yW.j0 k a1 (!a2) t397 t398 t399) else (yW.j0 k a1 true t397 t398 t399))) else (some (0, 0, t400))) = some (r1, r2, r3) := H
 have A4 := zC.mk A40
 clear A40
 have HX5 := zC.mk H
 clear H
 go_enter Try.func57, Try.ntmps57
 go_upto_if 18 with (first | ((with_reducible refine zP (N := 3) rfl ?_); refine zN ?hg (N := 3) ?hd (cs := #[.int .i64 a0_0, .int .i64 a0_1, .int .i64 a0_2, .int .i64 a0_3, .slice A0_4 l0_4.length c0_4]) (t := 32) ?hr ?_; (case hd => rfl); (case hg => rfl); (case hr => first | (go_simp; done) | (go_simp; rfl)); intro gb396 hg w6 hbox hb; have n0_ := zC.mk (zL (by repeat (first | (with_reducible first | exact HB.out | apply zG | apply zA | apply zD) | exact HB.out)) hb); have n1_ := zC.mk (hbox); have n2_ := zC.mk ((by rw [hg]; exact (zM (by repeat (first | (with_reducible first | exact HB.out | apply zG | apply zA | apply zD) | exact HB.out))) : w.heap.size ≤ gb396)); have n3_ := n2_; clear HB; have HB := n0_; have BK396 := n1_; have GW396 := n2_; have GE396 := n3_; clear n0_ n1_ n2_ n3_; clear hb hbox hg; have hcz7_0 : w6.cell? ⟨gb396, 0, none⟩ = some (.int .i64 a0_0) := zB BK396.out 0; have hcz7_1 : w6.cell? ⟨gb396, 1, none⟩ = some (.int .i64 a0_1) := zB BK396.out 1; have hcz7_2 : w6.cell? ⟨gb396, 2, none⟩ = some (.int .i64 a0_2) := zB BK396.out 2; have hcz7_3 : w6.cell? ⟨gb396, 3, none⟩ = some (.int .i64 a0_3) := zB BK396.out 3; have hcz7_4 : w6.cell? ⟨gb396, 4, none⟩ = some (.slice A0_4 l0_4.length c0_4) := zB BK396.out 4; have hfz7_0 := zJ BK396.out 0; have hfz7_1 := zJ BK396.out 1; have hfz7_2 := zJ BK396.out 2; have hfz7_3 := zJ BK396.out 3; have hfz7_4 := zJ BK396.out 4) | ((with_reducible refine zQ (f := 94) rfl ?_); refine zX (some 14) rfl rfl Try.func94 (by kernel_rfl) rfl #[.agg #[.int .i64 a0_0, .int .i64 a0_1, .int .i64 a0_2, .int .i64 a0_3, .slice A0_4 l0_4.length c0_4]] rfl (by (try simp only [List.map_toArray, List.map_cons, List.map_nil]); first | done | rfl) ?_; (with_reducible refine (xI.calls k a0_0 a0_1 a0_2 a0_3 _ _ l0_4 t397 t398 t399 t400 _ ?side1 ?side2 A4.out).mono ?_); (case side1 => repeat (first | exact (Kd.C_below HR0_4.out HB.out) | (with_reducible refine Kd.C_alloc ?_ _) | (with_reducible refine Kd.C_drewN ?_ _) | (with_reducible refine Kd.C_drew ?_))); (case side2 => exact HC0_4.out); rintro e w8 ⟨rfl, hb⟩; refine ⟨_, rfl, ?_⟩; have n0_ := zC.mk (zK (g := gb396) (o := .cells #[.int .i64 a0_0, .int .i64 a0_1, .int .i64 a0_2, .int .i64 a0_3, .slice A0_4 l0_4.length c0_4] 32 (0, 0)) (by (with_reducible repeat (first | refine zE ?_ _ | refine zI ?_ | refine zF ?_ _)); exact BK396.out) hb); have n1_ := zC.mk (zL (by repeat (first | (with_reducible first | exact HB.out | apply zG | apply zA | apply zD | refine zH ?_ GE396.out) | exact HB.out)) hb); clear BK396; clear HB; have BK396 := n0_; have HB := n1_; clear n0_ n1_; (try clear hb)) | ((with_reducible refine zP (N := 9) rfl ?_); refine zN ?hg (N := 9) ?hd (cs := #[.int .i64 0, .int .i64 0, .int .i64 0]) (t := 30) ?hr ?_; (case hd => rfl); (case hg => rfl); (case hr => first | (go_simp; done) | (go_simp; rfl)); intro gb401 hg w9 hbox hb; have n0_ := zC.mk (zK (g := gb396) (o := .cells #[.int .i64 a0_0, .int .i64 a0_1, .int .i64 a0_2, .int .i64 a0_3, .slice A0_4 l0_4.length c0_4] 32 (0, 0)) (by (with_reducible repeat (first | refine zE ?_ _ | refine zI ?_ | refine zF ?_ _)); exact BK396.out) hb); have n1_ := zC.mk (zL (by repeat (first | (with_reducible first | exact HB.out | apply zG | apply zA | apply zD | refine zH ?_ GE396.out) | exact HB.out)) hb); have n2_ := zC.mk (hbox); have n3_ := zC.mk ((by rw [hg]; exact (zM (by repeat (first | (with_reducible first | exact HB.out | apply zG | apply zA | apply zD | refine zH ?_ GE396.out) | exact HB.out))) : w.heap.size ≤ gb401)); have n4_ := n3_; have n5_ := zC.mk ((by rw [hg]; exact Nat.ne_of_lt (zV (by (with_reducible repeat (first | refine zE ?_ _ | refine zI ?_ | refine zF ?_ _)); exact BK396.out)) : gb396 ≠ gb401)); have n6_ := zC.mk n5_.out.symm; clear BK396; clear HB; have BK396 := n0_; have HB := n1_; have BK401 := n2_; have GW401 := n3_; have GE401 := n4_; have NB396_401 := n5_; have NB401_396 := n6_; clear n0_ n1_ n2_ n3_ n4_ n5_ n6_; clear hb hbox hg; have hnb10 := NB401_396.out; have hnc10 := NB396_401.out; have hcz11_0 : w9.cell? ⟨gb401, 0, none⟩ = some (.int .i64 0) := zB BK401.out 0; have hcz11_1 : w9.cell? ⟨gb401, 1, none⟩ = some (.int .i64 0) := zB BK401.out 1; have hcz11_2 : w9.cell? ⟨gb401, 2, none⟩ = some (.int .i64 0) := zB BK401.out 2; have hfz11_0 := zJ BK401.out 0; have hfz11_1 := zJ BK401.out 1; have hfz11_2 := zJ BK401.out 2))
 have H := HX5.out
 clear HX5
 by_cases c12 : t400 = 0
 ·
  rw [if_pos c12] at H
  have c12b0 : (t400 == 0) = true := beq_iff_eq.mpr c12
  have c12b1 : (t400 != 0) = false := bne_eq_false_iff_eq.mpr c12
  clear c12
  (first | rw [c12b0] | (simp only [zY, zZ]; rw [c12b0]) | skip)
  have HC13 := zC.mk H
  clear H
  go_upto_region 4 with (fail)
  go_cut [26] (fun v26 wc => ∃ (kq : Nat) (x26_12 : Bool), v26 = .bool x26_12 ∧ zC (yW.j0 kq a1 x26_12 t397 t398 t399 = some (r1, r2, r3)) ∧ zC (kq ≤ k) ∧ zC (wc.heap[gb396]? = some (.cells #[.int .i64 a0_0, .int .i64 a0_1, .int .i64 a0_2, .int .i64 a0_3, (.slice A0_4 l0_4.length c0_4)] 32 (0, 0))) ∧ zC (wc.heap[gb401]? = some (.cells #[.int .i64 t397, .int .i64 t398, .int .i64 t399] 30 (0, 0))) ∧ zC (Below w.heap.size w wc))
  case first =>
   have H := HC13.out
   clear HC13
   replace H := Option.bind_eq_some_iff.mp H
   obtain ⟨t402, A140, H⟩ := H
   replace H : (if t402 = true then (yW.j0 k a1 (!a2) t397 t398 t399) else (yW.j0 k a1 true t397 t398 t399)) = some (r1, r2, r3) := H
   have A14 := zC.mk A140
   clear A140
   by_cases c15 : t402 = true
   ·
    subst c15
    have H1 : (yW.j0 k a1 (!a2) t397 t398 t399) = some (r1, r2, r3) := by rw [if_pos rfl] at H; exact H
    clear H
    have H := H1
    clear H1
    have H' := zC.mk H
    clear H
    go_wp2_with (first | ((with_reducible refine zQ (f := 58) rfl ?_); refine zX (some 21) rfl rfl Try.func58 (by kernel_rfl) rfl #[.int .i64 a1] rfl (by (try simp only [List.map_toArray, List.map_cons, List.map_nil]); first | done | rfl) ?_; (with_reducible refine (wD.calls a1 true _ A14.out).mono ?_); rintro e w' ⟨rfl, ⟨nd, rfl⟩⟩; refine ⟨_, rfl, ?_⟩))
    go_meet
    case rel => exact ⟨_, (!a2), (by first | rfl | (simp; done) | (simp [*]; done)), H', ⟨by first | omega | exact Nat.le_refl _⟩, ⟨by (with_reducible repeat (first | refine zE ?_ _ | refine zI ?_ | refine zF ?_ _)); refine zU ?_ NB396_401.out _; (with_reducible repeat (first | refine zE ?_ _ | refine zI ?_ | refine zF ?_ _)); refine zU ?_ NB396_401.out _; (with_reducible repeat (first | refine zE ?_ _ | refine zI ?_ | refine zF ?_ _)); refine zU ?_ NB396_401.out _; (with_reducible repeat (first | refine zE ?_ _ | refine zI ?_ | refine zF ?_ _)); exact BK396.out⟩, ⟨by (with_reducible repeat (first | refine zE ?_ _ | refine zI ?_ | refine zF ?_ _)); refine zS (cs := #[.int .i64 t397, .int .i64 t398, .int .i64 0]) ?_ 2 _ rfl; (with_reducible repeat (first | refine zE ?_ _ | refine zI ?_ | refine zF ?_ _)); refine zS (cs := #[.int .i64 t397, .int .i64 0, .int .i64 0]) ?_ 1 _ rfl; (with_reducible repeat (first | refine zE ?_ _ | refine zI ?_ | refine zF ?_ _)); refine zS (cs := #[.int .i64 0, .int .i64 0, .int .i64 0]) ?_ 0 _ rfl; (with_reducible repeat (first | refine zE ?_ _ | refine zI ?_ | refine zF ?_ _)); exact BK401.out⟩, ⟨by repeat (first | (with_reducible first | exact HB.out | apply zG | apply zA | apply zD | refine zH ?_ GE396.out | refine zH ?_ GE401.out) | exact HB.out)⟩⟩
   ·
    replace c15 := Bool.eq_false_iff.mpr c15
    subst c15
    have H1 : (yW.j0 k a1 true t397 t398 t399) = some (r1, r2, r3) := by rw [if_neg (show ¬ (false = true) by decide)] at H; exact H
    clear H
    have H := H1
    clear H1
    have H' := zC.mk H
    clear H
    go_wp2_with (first | ((with_reducible refine zQ (f := 58) rfl ?_); refine zX (some 21) rfl rfl Try.func58 (by kernel_rfl) rfl #[.int .i64 a1] rfl (by (try simp only [List.map_toArray, List.map_cons, List.map_nil]); first | done | rfl) ?_; (with_reducible refine (wD.calls a1 false _ A14.out).mono ?_); rintro e w' ⟨rfl, ⟨nd, rfl⟩⟩; refine ⟨_, rfl, ?_⟩))
    go_meet
    case rel => exact ⟨_, (true), (by first | rfl | (simp; done) | (simp [*]; done)), H', ⟨by first | omega | exact Nat.le_refl _⟩, ⟨by (with_reducible repeat (first | refine zE ?_ _ | refine zI ?_ | refine zF ?_ _)); refine zU ?_ NB396_401.out _; (with_reducible repeat (first | refine zE ?_ _ | refine zI ?_ | refine zF ?_ _)); refine zU ?_ NB396_401.out _; (with_reducible repeat (first | refine zE ?_ _ | refine zI ?_ | refine zF ?_ _)); refine zU ?_ NB396_401.out _; (with_reducible repeat (first | refine zE ?_ _ | refine zI ?_ | refine zF ?_ _)); exact BK396.out⟩, ⟨by (with_reducible repeat (first | refine zE ?_ _ | refine zI ?_ | refine zF ?_ _)); refine zS (cs := #[.int .i64 t397, .int .i64 t398, .int .i64 0]) ?_ 2 _ rfl; (with_reducible repeat (first | refine zE ?_ _ | refine zI ?_ | refine zF ?_ _)); refine zS (cs := #[.int .i64 t397, .int .i64 0, .int .i64 0]) ?_ 1 _ rfl; (with_reducible repeat (first | refine zE ?_ _ | refine zI ?_ | refine zF ?_ _)); refine zS (cs := #[.int .i64 0, .int .i64 0, .int .i64 0]) ?_ 0 _ rfl; (with_reducible repeat (first | refine zE ?_ _ | refine zI ?_ | refine zF ?_ _)); exact BK401.out⟩, ⟨by repeat (first | (with_reducible first | exact HB.out | apply zG | apply zA | apply zD | refine zH ?_ GE396.out | refine zH ?_ GE401.out) | exact HB.out)⟩⟩
  case rest =>
   clear HC13
   try clear c1
   try clear p2
   try clear c5
   try clear c9
   try clear c10
   try clear c12
   try clear c12b0
   try clear c12b1
   try clear c15
   try clear hcz11_0
   try clear hcz11_1
   try clear hcz11_2
   try clear hcz7_0
   try clear hcz7_1
   try clear hcz7_2
   try clear hcz7_3
   try clear hcz7_4
   try clear hfz11_0
   try clear hfz11_1
   try clear hfz11_2
   try clear hfz7_0
   try clear hfz7_1
   try clear hfz7_2
   try clear hfz7_3
   try clear hfz7_4
   obtain ⟨kq, x26_12, rfl, HA, HJ12, BK396, BK401, HB⟩ := hcut
   cases kq with
   | zero => exact absurd HA.out (by simp [yW.j0])
   | succ kj12 =>
    have H := HA.out
    clear HA
    simp only [yW.j0] at H
    by_cases c16 : x26_12 = true
    ·
     subst c16
     have H1 : (some (0, 0, 2)) = some (r1, r2, r3) := by rw [if_pos rfl] at H; exact H
     clear H
     have H := H1
     clear H1
     simp only [Option.some.injEq, Prod.mk.injEq] at H
     obtain ⟨rfl, rfl, rfl⟩ := H
     go_wp2
     go_ret3
     exact ⟨by first | rfl | (simp [*, errW_none, errW_some] <;> rfl), by repeat (first | (with_reducible first | exact HB.out | apply zG | apply zA | apply zD | refine zH ?_ GE396.out | refine zH ?_ GE401.out) | exact HB.out)⟩
    ·
     replace c16 := Bool.eq_false_iff.mpr c16
     subst c16
     have H1 : ((yO.f kj12 t397 t398 t399 a1).bind fun t403 => (if t403 < 0 then (some (0, 0, 4)) else ((xC.f kj12 t397 t398 t399).bind fun t404 => (some (t404, t403, 0))))) = some (r1, r2, r3) := by rw [if_neg (show ¬ (false = true) by decide)] at H; exact H
     clear H
     have H := H1
     clear H1
     replace H := Option.bind_eq_some_iff.mp H
     obtain ⟨t403, A170, H⟩ := H
     replace H : (if t403 < 0 then (some (0, 0, 4)) else ((xC.f kj12 t397 t398 t399).bind fun t404 => (some (t404, t403, 0)))) = some (r1, r2, r3) := H
     have A17 := zC.mk A170
     clear A170
     have HX18 := zC.mk H
     clear H
     have hnb19 := NB401_396.out
     have hnc19 := NB396_401.out
     have hcz20_0 : wc.cell? ⟨gb401, 0, none⟩ = some (.int .i64 t397) := zB BK401.out 0
     have hcz20_1 : wc.cell? ⟨gb401, 1, none⟩ = some (.int .i64 t398) := zB BK401.out 1
     have hcz20_2 : wc.cell? ⟨gb401, 2, none⟩ = some (.int .i64 t399) := zB BK401.out 2
     have hfz20_0 := zJ BK401.out 0
     have hfz20_1 := zJ BK401.out 1
     have hfz20_2 := zJ BK401.out 2
     go_upto_if 31 with (first | ((with_reducible refine zQ (f := 95) rfl ?_); refine zX (some 29) rfl rfl Try.func95 (by kernel_rfl) rfl #[.agg #[.int .i64 t397, .int .i64 t398, .int .i64 t399], .int .i64 a1] rfl (by (try simp only [List.map_toArray, List.map_cons, List.map_nil]); first | done | rfl) ?_; (with_reducible refine (yO.calls kj12 t397 t398 t399 a1 t403 _ A17.out).mono ?_); rintro e w21 ⟨rfl, hb⟩; refine ⟨_, rfl, ?_⟩; have n0_ := zC.mk (zK (g := gb396) (o := .cells #[.int .i64 a0_0, .int .i64 a0_1, .int .i64 a0_2, .int .i64 a0_3, .slice A0_4 l0_4.length c0_4] 32 (0, 0)) (by (with_reducible repeat (first | refine zE ?_ _ | refine zI ?_ | refine zF ?_ _)); exact BK396.out) hb); have n1_ := zC.mk (zK (g := gb401) (o := .cells #[.int .i64 t397, .int .i64 t398, .int .i64 t399] 30 (0, 0)) (by (with_reducible repeat (first | refine zE ?_ _ | refine zI ?_ | refine zF ?_ _)); exact BK401.out) hb); have n2_ := zC.mk (zL (by repeat (first | (with_reducible first | exact HB.out | apply zG | apply zA | apply zD | refine zH ?_ GE396.out | refine zH ?_ GE401.out) | exact HB.out)) hb); clear BK396; clear BK401; clear HB; have BK396 := n0_; have BK401 := n1_; have HB := n2_; clear n0_ n1_ n2_; (try clear hb)))
     have H := HX18.out
     clear HX18
     by_cases c22 : t403 < 0
     ·
      rw [if_pos c22] at H
      have c22b0 : decide (t403 < 0) = true := decide_eq_true c22
      clear c22
      (first | rw [c22b0] | (simp only [zY, zZ]; rw [c22b0]) | skip)
      simp only [Option.some.injEq, Prod.mk.injEq] at H
      obtain ⟨rfl, rfl, rfl⟩ := H
      go_wp2
      go_ret3
      exact ⟨by first | rfl | (simp [*, errW_none, errW_some] <;> rfl), by repeat (first | (with_reducible first | exact HB.out | apply zG | apply zA | apply zD | refine zH ?_ GE396.out | refine zH ?_ GE401.out) | exact HB.out)⟩
     ·
      rw [if_neg c22] at H
      have c22b0 : decide (t403 < 0) = false := decide_eq_false c22
      clear c22
      (first | rw [c22b0] | (simp only [zY, zZ]; rw [c22b0]) | skip)
      replace H := Option.bind_eq_some_iff.mp H
      obtain ⟨t404, A230, H⟩ := H
      replace H : (some (t404, t403, 0)) = some (r1, r2, r3) := H
      have A23 := zC.mk A230
      clear A230
      simp only [Option.some.injEq, Prod.mk.injEq] at H
      obtain ⟨rfl, rfl, rfl⟩ := H
      have hnb24 := NB401_396.out
      have hnc24 := NB396_401.out
      have hcz25_0 : w21.cell? ⟨gb401, 0, none⟩ = some (.int .i64 t397) := zB BK401.out 0
      have hcz25_1 : w21.cell? ⟨gb401, 1, none⟩ = some (.int .i64 t398) := zB BK401.out 1
      have hcz25_2 : w21.cell? ⟨gb401, 2, none⟩ = some (.int .i64 t399) := zB BK401.out 2
      have hfz25_0 := zJ BK401.out 0
      have hfz25_1 := zJ BK401.out 1
      have hfz25_2 := zJ BK401.out 2
      go_wp2_with (first | ((with_reducible refine zQ (f := 96) rfl ?_); refine zX (some 33) rfl rfl Try.func96 (by kernel_rfl) rfl #[.agg #[.int .i64 t397, .int .i64 t398, .int .i64 t399]] rfl (by (try simp only [List.map_toArray, List.map_cons, List.map_nil]); first | done | rfl) ?_; (with_reducible refine (xC.calls kj12 t397 t398 t399 t404 _ A23.out).mono ?_); rintro e w26 ⟨rfl, hb⟩; refine ⟨_, rfl, ?_⟩; have n0_ := zC.mk (zK (g := gb396) (o := .cells #[.int .i64 a0_0, .int .i64 a0_1, .int .i64 a0_2, .int .i64 a0_3, .slice A0_4 l0_4.length c0_4] 32 (0, 0)) (by (with_reducible repeat (first | refine zE ?_ _ | refine zI ?_ | refine zF ?_ _)); exact BK396.out) hb); have n1_ := zC.mk (zK (g := gb401) (o := .cells #[.int .i64 t397, .int .i64 t398, .int .i64 t399] 30 (0, 0)) (by (with_reducible repeat (first | refine zE ?_ _ | refine zI ?_ | refine zF ?_ _)); exact BK401.out) hb); have n2_ := zC.mk (zL (by repeat (first | (with_reducible first | exact HB.out | apply zG | apply zA | apply zD | refine zH ?_ GE396.out | refine zH ?_ GE401.out) | exact HB.out)) hb); clear BK396; clear BK401; clear HB; have BK396 := n0_; have BK401 := n1_; have HB := n2_; clear n0_ n1_ n2_; (try clear hb)))
      go_ret3
      exact ⟨by first | rfl | (simp [*, errW_none, errW_some] <;> rfl), by repeat (first | (with_reducible first | exact HB.out | apply zG | apply zA | apply zD | refine zH ?_ GE396.out | refine zH ?_ GE401.out) | exact HB.out)⟩
 ·
  rw [if_neg c12] at H
  have c12b0 : (t400 == 0) = false := beq_eq_false_iff_ne.mpr c12
  have c12b1 : (t400 != 0) = true := bne_iff_ne.mpr c12
  (first | rw [c12b0] | (simp only [zY, zZ]; rw [c12b0]) | skip)
  simp only [Option.some.injEq, Prod.mk.injEq] at H
  obtain ⟨rfl, rfl, rfl⟩ := H
  go_wp2
  go_ret3
  exact ⟨by first | rfl | (simp [*, errW_none, errW_some] <;> rfl), by repeat (first | (with_reducible first | exact HB.out | apply zG | apply zA | apply zD | refine zH ?_ GE396.out | refine zH ?_ GE401.out) | exact HB.out)⟩
theorem wL.calls (a0 : Int) (r : Bool) (w : World) (h : wL.f a0 = some r) :
  Calls Try.prog 59 #[.int .i64 a0] w fun e w' => e = .returned (.bool r) ∧ Drawn0 w w' := by
 have H : ((xR.f a0 1 100).bind fun t405 => (some t405)) = some r := h
 clear h
 replace H := Option.bind_eq_some_iff.mp H
 obtain ⟨t405, A20, H⟩ := H
 replace H : (some t405) = some r := H
 have A2 := zC.mk A20
 clear A20
 obtain rfl := Option.some.inj H
 go_enter Try.func59, Try.ntmps59
 go_wp2_with (first | ((with_reducible refine zQ (f := 97) rfl ?_); refine zX (some 4) rfl rfl Try.func97 (by kernel_rfl) rfl #[.int .i64 a0, .int .i64 1, .int .i64 100] rfl (by (try simp only [List.map_toArray, List.map_cons, List.map_nil]); first | done | rfl) ?_; (with_reducible refine (xR.calls a0 1 100 t405 _ A2.out).mono ?_); rintro e w' ⟨rfl, ⟨nd, rfl⟩⟩; refine ⟨_, rfl, ?_⟩))
 go_ret
 exact ⟨by first | rfl | (simp; done) | (simp [*]; done), by repeat (first | exact Drawn0.refl _ | apply Drawn0.step)⟩
theorem yN.calls (k : Nat) (a0 : Int) (a1 : Int) (a2 : Int) (a3 : Int) (r : List Int) (w : World) (h : yN.f k a0 a1 a2 a3 = some r) :
  Calls Try.prog 60 #[.int .i64 a0, .int .i64 a1, .int .i64 a2, .int .i64 a3] w fun e w' => ∃ v0_ : Value, e = .returned (v0_) ∧ Kd.R (Kd.int .i64) 2 w' w.heap.size (fun _ => True) v0_ r ∧ Below w.heap.size w w' := by
 have HB := zC.mk (Below.refl w.heap.size w)
 have H : (yN.l0 k a0 a1 a2 a3 (([0] : List Int)) 1) = some r := h
 clear h
 obtain ⟨y406, hy406⟩ : ∃ y_ : List Int, y_ = (([0] : List Int)) := ⟨_, rfl⟩
 replace H : (yN.l0 k a0 a1 a2 a3 y406 1) = some r := by first | (rw [hy406]; with_reducible exact H) | (have H2_ := (Option.bind_some _ _).symm.trans H; rw [hy406]; with_reducible exact H2_) | (have H2_ := (Option.bind_some _ _).symm.trans H; with_reducible exact H2_) | with_reducible exact H | (rw [hy406]; exact H) | exact H
 have Ny406 := zC.mk hy406
 clear hy406
 have H' := zC.mk H
 clear H
 go_enter Try.func60, Try.ntmps60
 go_wp2_with (first | ((with_reducible refine zP (N := 12) rfl ?_); refine Kd.R_lit (Kd.int .i64) _ 2 ?hg (N := 12) ?hd (xs := ([0] : List Int)) (inner := [.int .i64 0]) (ok := fun _ => True) (okp := fun _ => True) ?hr ?hp (fun _ hk => hk) trivial (Below.refl _ _) (Nat.le_refl _) (by simp) ?_; (case hd => rfl); (case hg => rfl); (case hr => first | (go_simp; done) | (go_simp; rfl)); (case hp => exact (Reps.one (show Kd.M (Kd.int .i64) _ _ _ 0 [.int .i64 0] from rfl) (Reps.none _ _))); intro v407 w5 ho6 hb hg_ hnew_; clear hg_ hnew_; (first | rw [← Ny406.out] at ho6 | (simp only [Int.reduceToNat] at ho6; rw [← Ny406.out] at ho6)); have n0_ := zC.mk (Kd.R_lower ho6 (zM (by repeat (first | (with_reducible first | exact HB.out | apply zG | apply zA | apply zD) | exact HB.out)))); have n1_ := zC.mk (zL (by repeat (first | (with_reducible first | exact HB.out | apply zG | apply zA | apply zD) | exact HB.out)) hb); clear HB; have HO408 := n0_; have HB := n1_; clear n0_ n1_; clear hb ho6))
 go_loopg [9, 10] k (fun kq v9 v10 w' => ∃ (x9_1 : List Int) (x10_1 : Int), v10 = .int .i64 x10_1 ∧ zC (yN.l0 kq a0 a1 a2 a3 x9_1 x10_1 = some r) ∧ zC (kq ≤ k) ∧ zC (Kd.R (Kd.int .i64) 2 w' w.heap.size (fun _ => True) v9 x9_1) ∧ zC (Below w.heap.size w w'))
 case atStart => exact ⟨(y406), (1), (by first | rfl | (simp; done) | (simp [*]; done)), H', ⟨Nat.le_refl _⟩, ⟨by (with_reducible repeat (first | apply Kd.R_alloc | apply Kd.R_drewN | apply Kd.R_drew)); exact HO408.out⟩, ⟨by repeat (first | (with_reducible first | exact HB.out | apply zG | apply zA | apply zD) | exact HB.out)⟩⟩
 case round =>
  clear H'
  try clear p2
  try clear c6
  obtain ⟨x9_1, x10_1, rfl, HA, HK1, HO_9, HB⟩ := hrel
  cases gk with
  | zero => exact absurd HA.out (by simp [yN.l0])
  | succ k1 =>
   have H := HA.out
   clear HA
   simp only [yN.l0] at H
   by_cases c7 : x10_1 < a3
   ·
    rw [if_pos c7] at H
    have c7b0 : decide (x10_1 < a3) = true := decide_eq_true c7
    clear c7
    obtain ⟨ji8, hji8⟩ : ∃ j_ : Int, (wrap64 (x10_1 - 1)) = j_ := ⟨_, rfl⟩
    replace H : (if 0 ≤ (ji8) then (if (ji8) < (x9_1.length : Int) then ((wH.f (wrap64 ((wrap64 (x10_1 * a1)) - (wrap64 ((rd x9_1 (ji8)) + a2)))) a0).bind fun t410 => (if x9_1.length < 17592186044416 then (yN.l0 k1 a0 a1 a2 a3 (x9_1 ++ [wrap64 ((wrap64 ((rd x9_1 (ji8)) + a2)) + t410)]) (wrap64 (x10_1 + 1))) else (none))) else (none)) else (none)) = some r := by first | (rw [hji8] at H; exact H) | (simp only [hji8] at H ⊢; exact H)
    have hji8w : (IntKind.i64.wrap (x10_1 - 1)) = ji8 := (zY _).trans hji8
    by_cases c9 : 0 ≤ (ji8)
    ·
     rw [if_pos c9] at H
     have c9b0 : decide (0 ≤ (ji8)) = true := decide_eq_true c9
     clear c9
     by_cases c10 : (ji8) < (x9_1.length : Int)
     ·
      rw [if_pos c10] at H
      have c10b0 : decide ((ji8) < (x9_1.length : Int)) = true := decide_eq_true c10
      clear c10
      replace H := Option.bind_eq_some_iff.mp H
      obtain ⟨t410, A110, H⟩ := H
      replace H : (if x9_1.length < 17592186044416 then (yN.l0 k1 a0 a1 a2 a3 (x9_1 ++ [wrap64 ((wrap64 ((rd x9_1 (ji8)) + a2)) + t410)]) (wrap64 (x10_1 + 1))) else (none)) = some r := H
      have A11 := zC.mk A110
      clear A110
      by_cases c12 : x9_1.length < 17592186044416
      ·
       rw [if_pos c12] at H
       have LMc12 := zC.mk c12
       clear c12
       obtain ⟨y411, hy411⟩ : ∃ y_ : List Int, y_ = (x9_1 ++ [wrap64 ((wrap64 ((rd x9_1 (ji8)) + a2)) + t410)]) := ⟨_, rfl⟩
       replace H : (yN.l0 k1 a0 a1 a2 a3 y411 (wrap64 (x10_1 + 1))) = some r := by first | (rw [hy411]; with_reducible exact H) | (have H2_ := (Option.bind_some _ _).symm.trans H; rw [hy411]; with_reducible exact H2_) | (have H2_ := (Option.bind_some _ _).symm.trans H; with_reducible exact H2_) | with_reducible exact H | (rw [hy411]; exact H) | exact H
       have Ny411 := zC.mk hy411
       clear hy411
       have H' := zC.mk H
       clear H
       obtain ⟨Ao13, co13, eo13⟩ := Kd.R_slice HO_9.out
       subst eo13
       have p409 : 0 ≤ ((ji8) : Int) := of_decide_eq_true (by first | (with_reducible assumption) | assumption)
       have q409 : (ji8) < (x9_1.length : Int) := of_decide_eq_true (by first | (with_reducible assumption) | assumption)
       obtain ⟨ad409, e409, hx409_0⟩ := Kd.at_int (Kd.R_reads' HO_9.out).2.2 (ji8) p409 q409
       cases e409
       replace p409 := eq_true p409
       replace q409 := eq_true q409
       go_wp2_with (first | ((with_reducible refine zQ (f := 98) rfl ?_); refine zX (some 33) rfl rfl Try.func98 (by kernel_rfl) rfl #[.int .i64 (wrap64 ((wrap64 (x10_1 * a1)) - (wrap64 ((rd x9_1 (ji8)) + a2)))), .int .i64 a0] rfl (by (try simp only [List.map_toArray, List.map_cons, List.map_nil]); first | done | (simp only [hji8]; rfl) | rfl | (simp only [List.length_drop, List.length_take]; rfl)) ?_; (with_reducible refine (wH.calls (wrap64 ((wrap64 (x10_1 * a1)) - (wrap64 ((rd x9_1 (ji8)) + a2)))) a0 t410 _ A11.out).mono ?_); rintro e w' ⟨rfl, ⟨nd, rfl⟩⟩; refine ⟨_, rfl, ?_⟩) | ((with_reducible refine gate_builtin (b := .append) (xs := #[.tmp 25, .tmp 35]) rfl ?_); at_builtin; refine Kd.R_append (Kd.int .i64) (w0 := w) w.heap.size rfl (.tmp 25) (.tmp 35) 24 2 (.int .i64 0) 8 rfl Try.underlying24 info2 rfl (by decide) (by omega) (.slice (some ad409) x9_1.length co13) x9_1 (wrap64 ((wrap64 ((rd x9_1 (ji8)) + a2)) + t410)) [.int .i64 (wrap64 ((wrap64 ((rd x9_1 (ji8)) + a2)) + t410))] (fun _ => True) (fun _ => False) rfl rfl ?aP (fun _ hk => hk.elim) ?aF ?aO ?aB ?aS ?aL ?_; (case aP => exact rfl); (case aB => exact (by repeat (first | (with_reducible first | exact HB.out | apply zG | apply zA | apply zD) | exact HB.out))); (case aF => exact (fun _ _ => trivial)); (case aO => exact (by (with_reducible repeat (first | apply Kd.R_alloc | apply Kd.R_drewN | apply Kd.R_drew)); exact HO_9.out)); (case aS => exact (zM (by repeat (first | (with_reducible first | exact HB.out | apply zG | apply zA | apply zD) | exact HB.out)))); (case aL => have := LMc12.out; omega); intro v412 w14 ho hb hg hat; rw [← Ny411.out] at ho; have n0_ := zC.mk (hb); have n1_ := zC.mk (ho); clear HB; clear HO_9; have HB := n0_; have HO413 := n1_; clear n0_ n1_; clear ho hb hg hat))
       go_roundg k1
       case measure => have := HK1.out; omega
       case rel => exact ⟨(y411), (wrap64 (x10_1 + 1)), (by first | rfl | (simp; done) | (simp [*]; done)), H', ⟨by have := HK1.out; omega⟩, ⟨by (with_reducible repeat (first | apply Kd.R_alloc | apply Kd.R_drewN | apply Kd.R_drew)); exact HO413.out⟩, ⟨by repeat (first | (with_reducible first | exact HB.out | apply zG | apply zA | apply zD) | exact HB.out)⟩⟩
      ·
       rw [if_neg c12] at H
       exact absurd H (by simp)
     ·
      rw [if_neg c10] at H
      exact absurd H (by simp)
    ·
     rw [if_neg c9] at H
     exact absurd H (by simp)
   ·
    rw [if_neg c7] at H
    have c7b0 : decide (x10_1 < a3) = false := decide_eq_false c7
    clear c7
    obtain rfl := Option.some.inj H
    go_wp2
    go_ret
    exact ⟨_, by first | rfl | (simp [*, errW_none, errW_some] <;> rfl), by (with_reducible repeat (first | apply Kd.R_alloc | apply Kd.R_drewN | apply Kd.R_drew)); exact HO_9.out, by repeat (first | (with_reducible first | exact HB.out | apply zG | apply zA | apply zD) | exact HB.out)⟩
def xD.T1 : Bool × List (List Nat × List Nat) := (true, [([], []), ([], []), ([], []), ([2], [2]), ([3, 3], [3]), ([4], [4]), ([5, 4, 4], [4, 5]), ([4, 6], [4, 6]), ([0, 1, 7, 6], [0, 1, 7]), ([8], [8]), ([9], [9]), ([9], [9]), ([9], [9]), ([10, 8, 0, 1, 2, 3, 4, 5, 6, 7, 8, 9, 10], [10]), ([11, 13, 0, 1, 2, 3, 4, 5, 6, 7, 8, 9, 10, 11, 13], [11]), ([12, 14, 0, 1, 2, 3, 4, 5, 6, 7, 8, 9, 10, 11, 12, 13, 14], [12])])
def xD.B1 : List Nat := [0, 0, 0, 4, 12, 28, 60, 124, 255, 511, 1023, 1023, 1023, 2047, 12287, 32767]
theorem xD.tab1 : rtab .any (opsOf Try.f18 1) = xD.T1 := by kernel_rfl
theorem xD.bits1 : waitsOk xD.T1.2 xD.B1 = true := by kernel_rfl
theorem xD.calls (k : Nat) (a0_0 : Int) (a0_1 : Int) (a0_2 : Int) (a0_3 : Int) (A0_4 : Option Addr) (c0_4 : Nat) (l0_4 : List Int) (a1 : Int) (a2 : Int) (a3 : Int) (r1 : List Int) (r2 : Int) (w : World) (hr0_4 : Kd.C (Kd.int .i64) w A0_4 l0_4.length l0_4) (hc0_4 : l0_4.length ≤ c0_4) (h : xD.f k a0_0 a0_1 a0_2 a0_3 l0_4 a1 a2 a3 = some (r1, r2)) :
  Calls Try.prog 18 #[.agg #[.int .i64 a0_0, .int .i64 a0_1, .int .i64 a0_2, .int .i64 a0_3, .slice A0_4 l0_4.length c0_4], .int .i64 a1, .int .i64 a2, .int .i64 a3] w fun e w' => ∃ v0_ : Value, e = .returned (.tuple #[v0_, .int .i64 r2]) ∧ Kd.R (Kd.int .i64) 2 w' w.heap.size (fun _ => True) v0_ r1 ∧ Below w.heap.size w w' := by
 have hu32 := Try.underlying32
 have HR0_4 := zC.mk hr0_4
 have HC0_4 := zC.mk hc0_4
 clear hr0_4 hc0_4
 have HB := zC.mk (Below.refl w.heap.size w)
 have H : ((wD.f a2).bind fun t415 => (if t415 = true then ((wL.f a3).bind fun t416 => ((yW.f k a0_0 a0_1 a0_2 a0_3 l0_4 a1 t416).bind fun bt417 => (if bt417.2.2 = 0 then ((yN.f k bt417.1 bt417.2.1 a2 a3).bind fun t420 => (some (t420, 0))) else (some (([] : List Int), bt417.2.2))))) else ((yW.f k a0_0 a0_1 a0_2 a0_3 l0_4 a1 false).bind fun bt423 => (if bt423.2.2 = 0 then ((yN.f k bt423.1 bt423.2.1 a2 a3).bind fun t426 => (some (t426, 0))) else (some (([] : List Int), bt423.2.2)))))) = some (r1, r2) := h
 clear h
 replace H := Option.bind_eq_some_iff.mp H
 obtain ⟨t415, A50, H⟩ := H
 replace H : (if t415 = true then ((wL.f a3).bind fun t416 => ((yW.f k a0_0 a0_1 a0_2 a0_3 l0_4 a1 t416).bind fun bt417 => (if bt417.2.2 = 0 then ((yN.f k bt417.1 bt417.2.1 a2 a3).bind fun t420 => (some (t420, 0))) else (some (([] : List Int), bt417.2.2))))) else ((yW.f k a0_0 a0_1 a0_2 a0_3 l0_4 a1 false).bind fun bt423 => (if bt423.2.2 = 0 then ((yN.f k bt423.1 bt423.2.1 a2 a3).bind fun t426 => (some (t426, 0))) else (some (([] : List Int), bt423.2.2))))) = some (r1, r2) := H
 have A5 := zC.mk A50
 clear A50
 by_cases c6 : t415 = true
 ·
  subst c6
  have H1 : ((wL.f a3).bind fun t416 => ((yW.f k a0_0 a0_1 a0_2 a0_3 l0_4 a1 t416).bind fun bt417 => (if bt417.2.2 = 0 then ((yN.f k bt417.1 bt417.2.1 a2 a3).bind fun t420 => (some (t420, 0))) else (some (([] : List Int), bt417.2.2))))) = some (r1, r2) := by rw [if_pos rfl] at H; exact H
  clear H
  have H := H1
  clear H1
  replace H := Option.bind_eq_some_iff.mp H
  obtain ⟨t416, A70, H⟩ := H
  replace H : ((yW.f k a0_0 a0_1 a0_2 a0_3 l0_4 a1 t416).bind fun bt417 => (if bt417.2.2 = 0 then ((yN.f k bt417.1 bt417.2.1 a2 a3).bind fun t420 => (some (t420, 0))) else (some (([] : List Int), bt417.2.2)))) = some (r1, r2) := H
  have A7 := zC.mk A70
  clear A70
  replace H := Option.bind_eq_some_iff.mp H
  obtain ⟨⟨t417, t418, t419⟩, A80, H⟩ := H
  replace H : (if t419 = 0 then ((yN.f k t417 t418 a2 a3).bind fun t420 => (some (t420, 0))) else (some (([] : List Int), t419))) = some (r1, r2) := H
  have A8 := zC.mk A80
  clear A80
  have HX9 := zC.mk H
  clear H
  go_enter Try.func18, Try.ntmps18
  try go_wp2_with (first | ((with_reducible refine zP (N := 4) rfl ?_); refine zN ?hg (N := 4) ?hd (cs := #[.int .i64 a0_0, .int .i64 a0_1, .int .i64 a0_2, .int .i64 a0_3, .slice A0_4 l0_4.length c0_4]) (t := 32) ?hr ?_; (case hd => rfl); (case hg => rfl); (case hr => first | (go_simp; done) | (go_simp; rfl)); intro gb414 hg w10 hbox hb; have n0_ := zC.mk (zL (by repeat (first | (with_reducible first | exact HB.out | apply zG | apply zA | apply zD) | exact HB.out)) hb); have n1_ := zC.mk (hbox); have n2_ := zC.mk ((by rw [hg]; exact (zM (by repeat (first | (with_reducible first | exact HB.out | apply zG | apply zA | apply zD) | exact HB.out))) : w.heap.size ≤ gb414)); have n3_ := n2_; clear HB; have HB := n0_; have BK414 := n1_; have GW414 := n2_; have GE414 := n3_; clear n0_ n1_ n2_ n3_; clear hb hbox hg))
  have n0_ := zC.mk (zI BK414.out)
  have n1_ := zC.mk (zD HB.out)
  clear BK414
  clear HB
  have BK414 := n0_
  have HB := n1_
  clear n0_ n1_
  refine start_ (n := 16) (S := fun w' => w'.cell? ⟨gb414, 0, none⟩ = some (.int .i64 a0_0) ∧ w'.cell? ⟨gb414, 1, none⟩ = some (.int .i64 a0_1) ∧ w'.cell? ⟨gb414, 2, none⟩ = some (.int .i64 a0_2) ∧ w'.cell? ⟨gb414, 3, none⟩ = some (.int .i64 a0_3) ∧ w'.cell? ⟨gb414, 4, none⟩ = some (.slice A0_4 l0_4.length c0_4)) (ds := []) #[false, false, false, false, false, false, false, false, false, false, false, false, false, false, false, false] (by kernel_rfl) rfl rfl ⟨zB BK414.out 0, zB BK414.out 1, zB BK414.out 2, zB BK414.out 3, zB BK414.out 4⟩ (fun hHeld => ?_); refine yE xD.tab1 xD.bits1 (fun HT_ HW_ => ?_)
  generalize w10.drew = w11 at BK414 HB hHeld ⊢
  refine zR (i := 1) (N := some 15) (v := ?_) (a' := ?_) #[false, true, false, false, false, false, false, false, false, false, false, false, false, false, false, false] rfl rfl (zO HT_.out (by kernel_rfl)) (fun _ _ _ h => h) (Or.inl ⟨by rfl, ?_⟩) ?_ ?_
  rotate_left
  ·
   intro w'
   go_simp
   with_reducible rfl
  rotate_left
  ·
   go_simp
   rfl
  refine zR (i := 2) (N := some 16) (v := ?_) (a' := ?_) #[false, true, true, false, false, false, false, false, false, false, false, false, false, false, false, false] rfl rfl (zO HT_.out (by kernel_rfl)) (fun _ _ _ h => h) (Or.inl ⟨by rfl, ?_⟩) ?_ ?_
  rotate_left
  ·
   intro w'
   go_simp
   with_reducible rfl
  rotate_left
  ·
   go_simp
   rfl
  refine yC (i := 0) (N := some 14) (v := ?_) (a' := ?_) #[true, true, true, false, false, false, false, false, false, false, false, false, false, false, false, false] rfl rfl (zW HT_.out HW_.out (by kernel_rfl)) (fun _ _ _ h => h) (Or.inl ⟨by rfl, ?_⟩) hHeld ?_ ?_
  rotate_left
  ·
   rintro w' ⟨s0, s1, s2, s3, s4⟩
   go_simp
   with_reducible rfl
  rotate_left
  ·
   go_simp
   rfl
  refine one_ (i := 3) (N := some 17) #[true, true, true, true, false, false, false, false, false, false, false, false, false, false, false, false] rfl rfl (yB HT_.out (by kernel_rfl)) (by decide) (fun K hK => ?_)
  refine yD Try.func58 (by kernel_rfl) rfl #[.int .i64 a2] (by rfl) rfl rfl (by (try simp only [List.map_toArray, List.map_cons, List.map_nil]); first | done | rfl) ?_
  with_reducible refine (wD.calls a2 true _ A5.out).mono ?_
  rintro e w' ⟨rfl, ⟨nd, rfl⟩⟩
  refine ⟨_, rfl, ?_⟩
  refine hK.out _ _ ⟨zB BK414.out 0, zB BK414.out 1, zB BK414.out 2, zB BK414.out 3, zB BK414.out 4⟩ (fun hHeld => ?_)
  clear hK K
  refine yA (a' := ?_) ?_ ?_
  rotate_left
  ·
   show Act.put _ (some 17) _ = _
   go_simp
   rfl
  refine zR (i := 4) (N := some 18) (v := ?_) (a' := ?_) #[true, true, true, true, true, false, false, false, false, false, false, false, false, false, false, false] rfl rfl (zO HT_.out (by kernel_rfl)) (fun _ _ _ h => h) (Or.inl ⟨by rfl, ?_⟩) ?_ ?_
  rotate_left
  ·
   intro w'
   go_simp
   with_reducible rfl
  rotate_left
  ·
   go_simp
   rfl
  refine zR (i := 5) (N := some 19) (v := ?_) (a' := ?_) #[true, true, true, true, true, true, false, false, false, false, false, false, false, false, false, false] rfl rfl (zO HT_.out (by kernel_rfl)) (fun _ _ _ h => h) (Or.inl ⟨by rfl, ?_⟩) ?_ ?_
  rotate_left
  ·
   intro w'
   go_simp
   with_reducible rfl
  rotate_left
  ·
   go_simp
   rfl
  refine one_ (i := 6) (N := some 20) #[true, true, true, true, true, true, true, false, false, false, false, false, false, false, false, false] rfl rfl (yB HT_.out (by kernel_rfl)) (by decide) (fun K hK => ?_)
  refine yD Try.func59 (by kernel_rfl) rfl #[.int .i64 a3] (by rfl) rfl rfl (by (try simp only [List.map_toArray, List.map_cons, List.map_nil]); first | done | rfl) ?_
  with_reducible refine (wL.calls a3 t416 _ A7.out).mono ?_
  rintro e w' ⟨rfl, ⟨nd, rfl⟩⟩
  refine ⟨_, rfl, ?_⟩
  refine hK.out _ _ ⟨zB BK414.out 0, zB BK414.out 1, zB BK414.out 2, zB BK414.out 3, zB BK414.out 4⟩ (fun hHeld => ?_)
  clear hK K
  refine yA (a' := ?_) ?_ ?_
  rotate_left
  ·
   show Act.put _ (some 20) _ = _
   go_simp
   rfl
  refine zR (i := 7) (N := some 21) (v := ?_) (a' := ?_) #[true, true, true, true, true, true, true, true, false, false, false, false, false, false, false, false] rfl rfl (zO HT_.out (by kernel_rfl)) (fun _ _ _ h => h) (Or.inl ⟨by rfl, ?_⟩) ?_ ?_
  rotate_left
  ·
   intro w'
   go_simp
   with_reducible rfl
  rotate_left
  ·
   go_simp
   rfl
  refine one_ (i := 8) (N := some 22) #[true, true, true, true, true, true, true, true, true, false, false, false, false, false, false, false] rfl rfl (yB HT_.out (by kernel_rfl)) (by decide) (fun K hK => ?_)
  refine yD Try.func57 (by kernel_rfl) rfl #[.agg #[.int .i64 a0_0, .int .i64 a0_1, .int .i64 a0_2, .int .i64 a0_3, .slice A0_4 l0_4.length c0_4], .int .i64 a1, .bool t416] (by rfl) rfl rfl (by (try simp only [List.map_toArray, List.map_cons, List.map_nil]); first | done | rfl) ?_
  with_reducible refine (yW.calls k a0_0 a0_1 a0_2 a0_3 _ _ l0_4 a1 t416 t417 t418 t419 _ ?side1 ?side2 A8.out).mono ?_
  (case side1 => repeat (first | exact (Kd.C_below HR0_4.out (by repeat (first | (with_reducible first | exact HB.out | apply zG | apply zA | apply zD | refine zH ?_ GE414.out) | exact HB.out))) | (with_reducible refine Kd.C_alloc ?_ _) | (with_reducible refine Kd.C_drewN ?_ _) | (with_reducible refine Kd.C_drew ?_)))
  (case side2 => exact HC0_4.out)
  rintro e w12 ⟨rfl, hb⟩
  refine ⟨_, rfl, ?_⟩
  have n0_ := zC.mk (zK (g := gb414) (o := .cells #[.int .i64 a0_0, .int .i64 a0_1, .int .i64 a0_2, .int .i64 a0_3, .slice A0_4 l0_4.length c0_4] 32 (0, 0)) (by (with_reducible repeat (first | refine zE ?_ _ | refine zI ?_ | refine zF ?_ _)); exact BK414.out) hb)
  have n1_ := zC.mk (zL (by repeat (first | (with_reducible first | exact HB.out | apply zG | apply zA | apply zD | refine zH ?_ GE414.out) | exact HB.out)) hb)
  clear BK414
  clear HB
  have BK414 := n0_
  have HB := n1_
  clear n0_ n1_
  (try clear hb)
  refine hK.out _ _ ⟨zB BK414.out 0, zB BK414.out 1, zB BK414.out 2, zB BK414.out 3, zB BK414.out 4⟩ (fun hHeld => ?_)
  clear hK K
  refine yA (a' := ?_) ?_ ?_
  rotate_left
  ·
   show Act.put _ (some 22) _ = _
   go_simp
   rfl
  refine zR (i := 9) (N := some 13) (v := ?_) (a' := ?_) #[true, true, true, true, true, true, true, true, true, true, false, false, false, false, false, false] rfl rfl (zO HT_.out (by kernel_rfl)) (fun _ _ _ h => h) (Or.inl ⟨by rfl, ?_⟩) ?_ ?_
  rotate_left
  ·
   intro w'
   go_simp
   with_reducible rfl
  rotate_left
  ·
   go_simp
   rfl
  refine zR (i := 10) (N := some 23) (v := ?_) (a' := ?_) #[true, true, true, true, true, true, true, true, true, true, true, false, false, false, false, false] rfl rfl (zO HT_.out (by kernel_rfl)) (fun _ _ _ h => h) (Or.inl ⟨by rfl, ?_⟩) ?_ ?_
  rotate_left
  ·
   intro w'
   go_simp
   with_reducible rfl
  rotate_left
  ·
   go_simp
   rfl
  refine zR (i := 11) (N := some 24) (v := ?_) (a' := ?_) #[true, true, true, true, true, true, true, true, true, true, true, true, false, false, false, false] rfl rfl (zO HT_.out (by kernel_rfl)) (fun _ _ _ h => h) (Or.inl ⟨by rfl, ?_⟩) ?_ ?_
  rotate_left
  ·
   intro w'
   go_simp
   with_reducible rfl
  rotate_left
  ·
   go_simp
   rfl
  refine zR (i := 12) (N := some 25) (v := ?_) (a' := ?_) #[true, true, true, true, true, true, true, true, true, true, true, true, true, false, false, false] rfl rfl (zO HT_.out (by kernel_rfl)) (fun _ _ _ h => h) (Or.inl ⟨by rfl, ?_⟩) ?_ ?_
  rotate_left
  ·
   intro w'
   go_simp
   with_reducible rfl
  rotate_left
  ·
   go_simp
   rfl
  refine zR (i := 13) (N := some 10) (v := ?_) (a' := ?_) #[true, true, true, true, true, true, true, true, true, true, true, true, true, true, false, false] rfl rfl (zO HT_.out (by kernel_rfl)) (fun _ _ _ h => h) (Or.inl ⟨by rfl, ?_⟩) ?_ ?_
  rotate_left
  ·
   intro w'
   go_simp
   with_reducible rfl
  rotate_left
  ·
   go_simp
   rfl
  refine zR (i := 14) (N := some 11) (v := ?_) (a' := ?_) #[true, true, true, true, true, true, true, true, true, true, true, true, true, true, true, false] rfl rfl (zO HT_.out (by kernel_rfl)) (fun _ _ _ h => h) (Or.inl ⟨by rfl, ?_⟩) ?_ ?_
  rotate_left
  ·
   intro w'
   go_simp
   with_reducible rfl
  rotate_left
  ·
   go_simp
   rfl
  refine zR (i := 15) (N := some 12) (v := ?_) (a' := ?_) #[true, true, true, true, true, true, true, true, true, true, true, true, true, true, true, true] rfl rfl (zO HT_.out (by kernel_rfl)) (fun _ _ _ h => h) (Or.inl ⟨by rfl, ?_⟩) ?_ ?_
  rotate_left
  ·
   intro w'
   go_simp
   with_reducible rfl
  rotate_left
  ·
   go_simp
   rfl
  refine done_ (done_of HT_.out (by kernel_rfl)) ?_
  go_upto_if 27 with (fail)
  have H := HX9.out
  clear HX9
  by_cases c13 : t419 = 0
  ·
   rw [if_pos c13] at H
   have c13b0 : (t419 == 0) = true := beq_iff_eq.mpr c13
   have c13b1 : (t419 != 0) = false := bne_eq_false_iff_eq.mpr c13
   clear c13
   (first | rw [c13b0] | (simp only [zY, zZ]; rw [c13b0]) | skip)
   replace H := Option.bind_eq_some_iff.mp H
   obtain ⟨t420, A140, H⟩ := H
   replace H : (some (t420, 0)) = some (r1, r2) := H
   have A14 := zC.mk A140
   clear A140
   simp only [Option.some.injEq, Prod.mk.injEq] at H
   obtain ⟨rfl, rfl⟩ := H
   go_wp2_with (first | ((with_reducible refine zQ (f := 60) rfl ?_); refine zX (some 33) rfl rfl Try.func60 (by kernel_rfl) rfl #[.int .i64 t417, .int .i64 t418, .int .i64 a2, .int .i64 a3] rfl (by (try simp only [List.map_toArray, List.map_cons, List.map_nil]); first | done | rfl) ?_; (with_reducible refine (yN.calls k t417 t418 a2 a3 t420 _ A14.out).mono ?_); rintro e w15 ⟨v421, rfl, ho0, hb⟩; refine ⟨_, rfl, ?_⟩; have n0_ := zC.mk (Kd.R_lower ho0 (zM (by repeat (first | (with_reducible first | exact HB.out | apply zG | apply zA | apply zD | refine zH ?_ GE414.out) | exact HB.out)))); have n1_ := zC.mk (zK (g := gb414) (o := .cells #[.int .i64 a0_0, .int .i64 a0_1, .int .i64 a0_2, .int .i64 a0_3, .slice A0_4 l0_4.length c0_4] 32 (0, 0)) (by (with_reducible repeat (first | refine zE ?_ _ | refine zI ?_ | refine zF ?_ _)); exact BK414.out) hb); have n2_ := zC.mk (zL (by repeat (first | (with_reducible first | exact HB.out | apply zG | apply zA | apply zD | refine zH ?_ GE414.out) | exact HB.out)) hb); clear BK414; clear HB; have HO422 := n0_; have BK414 := n1_; have HB := n2_; clear n0_ n1_ n2_; (try clear hb); (try clear ho0)))
   go_ret2
   exact ⟨_, by first | rfl | (simp [*, errW_none, errW_some] <;> rfl), by (with_reducible repeat (first | apply Kd.R_alloc | apply Kd.R_drewN | apply Kd.R_drew)); exact HO422.out, by repeat (first | (with_reducible first | exact HB.out | apply zG | apply zA | apply zD | refine zH ?_ GE414.out) | exact HB.out)⟩
  ·
   rw [if_neg c13] at H
   have c13b0 : (t419 == 0) = false := beq_eq_false_iff_ne.mpr c13
   have c13b1 : (t419 != 0) = true := bne_iff_ne.mpr c13
   (first | rw [c13b0] | (simp only [zY, zZ]; rw [c13b0]) | skip)
   simp only [Option.some.injEq, Prod.mk.injEq] at H
   obtain ⟨rfl, rfl⟩ := H
   go_wp2
   go_ret2
   exact ⟨_, by first | rfl | (simp [*, errW_none, errW_some] <;> rfl), by first | exact Kd.R_nil _ _ _ _ _ | exact Kd.N_nil _ _ _ _ _ | exact Kd.V_nil _ _ _ _ _ | exact Kd.Q_nil _ _ _ _ _ | exact Kd.S_nil _ _ _ _ _, by repeat (first | (with_reducible first | exact HB.out | apply zG | apply zA | apply zD | refine zH ?_ GE414.out) | exact HB.out)⟩
 ·
  replace c6 := Bool.eq_false_iff.mpr c6
  subst c6
  have H1 : ((yW.f k a0_0 a0_1 a0_2 a0_3 l0_4 a1 false).bind fun bt423 => (if bt423.2.2 = 0 then ((yN.f k bt423.1 bt423.2.1 a2 a3).bind fun t426 => (some (t426, 0))) else (some (([] : List Int), bt423.2.2)))) = some (r1, r2) := by rw [if_neg (show ¬ (false = true) by decide)] at H; exact H
  clear H
  have H := H1
  clear H1
  replace H := Option.bind_eq_some_iff.mp H
  obtain ⟨⟨t423, t424, t425⟩, A160, H⟩ := H
  replace H : (if t425 = 0 then ((yN.f k t423 t424 a2 a3).bind fun t426 => (some (t426, 0))) else (some (([] : List Int), t425))) = some (r1, r2) := H
  have A16 := zC.mk A160
  clear A160
  have HX17 := zC.mk H
  clear H
  go_enter Try.func18, Try.ntmps18
  try go_wp2_with (first | ((with_reducible refine zP (N := 4) rfl ?_); refine zN ?hg (N := 4) ?hd (cs := #[.int .i64 a0_0, .int .i64 a0_1, .int .i64 a0_2, .int .i64 a0_3, .slice A0_4 l0_4.length c0_4]) (t := 32) ?hr ?_; (case hd => rfl); (case hg => rfl); (case hr => first | (go_simp; done) | (go_simp; rfl)); intro gb414 hg w18 hbox hb; have n0_ := zC.mk (zL (by repeat (first | (with_reducible first | exact HB.out | apply zG | apply zA | apply zD) | exact HB.out)) hb); have n1_ := zC.mk (hbox); have n2_ := zC.mk ((by rw [hg]; exact (zM (by repeat (first | (with_reducible first | exact HB.out | apply zG | apply zA | apply zD) | exact HB.out))) : w.heap.size ≤ gb414)); have n3_ := n2_; clear HB; have HB := n0_; have BK414 := n1_; have GW414 := n2_; have GE414 := n3_; clear n0_ n1_ n2_ n3_; clear hb hbox hg))
  have n0_ := zC.mk (zI BK414.out)
  have n1_ := zC.mk (zD HB.out)
  clear BK414
  clear HB
  have BK414 := n0_
  have HB := n1_
  clear n0_ n1_
  refine start_ (n := 16) (S := fun w' => w'.cell? ⟨gb414, 0, none⟩ = some (.int .i64 a0_0) ∧ w'.cell? ⟨gb414, 1, none⟩ = some (.int .i64 a0_1) ∧ w'.cell? ⟨gb414, 2, none⟩ = some (.int .i64 a0_2) ∧ w'.cell? ⟨gb414, 3, none⟩ = some (.int .i64 a0_3) ∧ w'.cell? ⟨gb414, 4, none⟩ = some (.slice A0_4 l0_4.length c0_4)) (ds := []) #[false, false, false, false, false, false, false, false, false, false, false, false, false, false, false, false] (by kernel_rfl) rfl rfl ⟨zB BK414.out 0, zB BK414.out 1, zB BK414.out 2, zB BK414.out 3, zB BK414.out 4⟩ (fun hHeld => ?_); refine yE xD.tab1 xD.bits1 (fun HT_ HW_ => ?_)
  generalize w18.drew = w19 at BK414 HB hHeld ⊢
  refine zR (i := 1) (N := some 15) (v := ?_) (a' := ?_) #[false, true, false, false, false, false, false, false, false, false, false, false, false, false, false, false] rfl rfl (zO HT_.out (by kernel_rfl)) (fun _ _ _ h => h) (Or.inl ⟨by rfl, ?_⟩) ?_ ?_
  rotate_left
  ·
   intro w'
   go_simp
   with_reducible rfl
  rotate_left
  ·
   go_simp
   rfl
  refine zR (i := 2) (N := some 16) (v := ?_) (a' := ?_) #[false, true, true, false, false, false, false, false, false, false, false, false, false, false, false, false] rfl rfl (zO HT_.out (by kernel_rfl)) (fun _ _ _ h => h) (Or.inl ⟨by rfl, ?_⟩) ?_ ?_
  rotate_left
  ·
   intro w'
   go_simp
   with_reducible rfl
  rotate_left
  ·
   go_simp
   rfl
  refine yC (i := 0) (N := some 14) (v := ?_) (a' := ?_) #[true, true, true, false, false, false, false, false, false, false, false, false, false, false, false, false] rfl rfl (zW HT_.out HW_.out (by kernel_rfl)) (fun _ _ _ h => h) (Or.inl ⟨by rfl, ?_⟩) hHeld ?_ ?_
  rotate_left
  ·
   rintro w' ⟨s0, s1, s2, s3, s4⟩
   go_simp
   with_reducible rfl
  rotate_left
  ·
   go_simp
   rfl
  refine one_ (i := 3) (N := some 17) #[true, true, true, true, false, false, false, false, false, false, false, false, false, false, false, false] rfl rfl (yB HT_.out (by kernel_rfl)) (by decide) (fun K hK => ?_)
  refine yD Try.func58 (by kernel_rfl) rfl #[.int .i64 a2] (by rfl) rfl rfl (by (try simp only [List.map_toArray, List.map_cons, List.map_nil]); first | done | rfl) ?_
  with_reducible refine (wD.calls a2 false _ A5.out).mono ?_
  rintro e w' ⟨rfl, ⟨nd, rfl⟩⟩
  refine ⟨_, rfl, ?_⟩
  refine hK.out _ _ ⟨zB BK414.out 0, zB BK414.out 1, zB BK414.out 2, zB BK414.out 3, zB BK414.out 4⟩ (fun hHeld => ?_)
  clear hK K
  refine yA (a' := ?_) ?_ ?_
  rotate_left
  ·
   show Act.put _ (some 17) _ = _
   go_simp
   rfl
  refine zR (i := 4) (N := some 18) (v := ?_) (a' := ?_) #[true, true, true, true, true, false, false, false, false, false, false, false, false, false, false, false] rfl rfl (zO HT_.out (by kernel_rfl)) (fun _ _ _ h => h) (Or.inl ⟨by rfl, ?_⟩) ?_ ?_
  rotate_left
  ·
   intro w'
   go_simp
   with_reducible rfl
  rotate_left
  ·
   go_simp
   rfl
  refine zR (i := 5) (N := some 19) (v := undef) (a' := ?_) #[true, true, true, true, true, true, false, false, false, false, false, false, false, false, false, false] rfl rfl (zO HT_.out (by kernel_rfl)) (fun _ _ _ h => h) (Or.inr ⟨by rfl, rfl⟩) ?_ ?_
  rotate_left
  ·
   go_simp
   rfl
  refine zR (i := 6) (N := some 20) (v := undef) (a' := ?_) #[true, true, true, true, true, true, true, false, false, false, false, false, false, false, false, false] rfl rfl (zO HT_.out (by kernel_rfl)) (fun _ _ _ h => h) (Or.inr ⟨by rfl, rfl⟩) ?_ ?_
  rotate_left
  ·
   go_simp
   rfl
  refine zR (i := 7) (N := some 21) (v := ?_) (a' := ?_) #[true, true, true, true, true, true, true, true, false, false, false, false, false, false, false, false] rfl rfl (zO HT_.out (by kernel_rfl)) (fun _ _ _ h => h) (Or.inl ⟨by rfl, ?_⟩) ?_ ?_
  rotate_left
  ·
   intro w'
   go_simp
   with_reducible rfl
  rotate_left
  ·
   go_simp
   rfl
  refine one_ (i := 8) (N := some 22) #[true, true, true, true, true, true, true, true, true, false, false, false, false, false, false, false] rfl rfl (yB HT_.out (by kernel_rfl)) (by decide) (fun K hK => ?_)
  refine yD Try.func57 (by kernel_rfl) rfl #[.agg #[.int .i64 a0_0, .int .i64 a0_1, .int .i64 a0_2, .int .i64 a0_3, .slice A0_4 l0_4.length c0_4], .int .i64 a1, .bool false] (by rfl) rfl rfl (by (try simp only [List.map_toArray, List.map_cons, List.map_nil]); first | done | rfl) ?_
  with_reducible refine (yW.calls k a0_0 a0_1 a0_2 a0_3 _ _ l0_4 a1 false t423 t424 t425 _ ?side1 ?side2 A16.out).mono ?_
  (case side1 => repeat (first | exact (Kd.C_below HR0_4.out (by repeat (first | (with_reducible first | exact HB.out | apply zG | apply zA | apply zD | refine zH ?_ GE414.out) | exact HB.out))) | (with_reducible refine Kd.C_alloc ?_ _) | (with_reducible refine Kd.C_drewN ?_ _) | (with_reducible refine Kd.C_drew ?_)))
  (case side2 => exact HC0_4.out)
  rintro e w20 ⟨rfl, hb⟩
  refine ⟨_, rfl, ?_⟩
  have n0_ := zC.mk (zK (g := gb414) (o := .cells #[.int .i64 a0_0, .int .i64 a0_1, .int .i64 a0_2, .int .i64 a0_3, .slice A0_4 l0_4.length c0_4] 32 (0, 0)) (by (with_reducible repeat (first | refine zE ?_ _ | refine zI ?_ | refine zF ?_ _)); exact BK414.out) hb)
  have n1_ := zC.mk (zL (by repeat (first | (with_reducible first | exact HB.out | apply zG | apply zA | apply zD | refine zH ?_ GE414.out) | exact HB.out)) hb)
  clear BK414
  clear HB
  have BK414 := n0_
  have HB := n1_
  clear n0_ n1_
  (try clear hb)
  refine hK.out _ _ ⟨zB BK414.out 0, zB BK414.out 1, zB BK414.out 2, zB BK414.out 3, zB BK414.out 4⟩ (fun hHeld => ?_)
  clear hK K
  refine yA (a' := ?_) ?_ ?_
  rotate_left
  ·
   show Act.put _ (some 22) _ = _
   go_simp
   rfl
  refine zR (i := 9) (N := some 13) (v := ?_) (a' := ?_) #[true, true, true, true, true, true, true, true, true, true, false, false, false, false, false, false] rfl rfl (zO HT_.out (by kernel_rfl)) (fun _ _ _ h => h) (Or.inl ⟨by rfl, ?_⟩) ?_ ?_
  rotate_left
  ·
   intro w'
   go_simp
   with_reducible rfl
  rotate_left
  ·
   go_simp
   rfl
  refine zR (i := 10) (N := some 23) (v := ?_) (a' := ?_) #[true, true, true, true, true, true, true, true, true, true, true, false, false, false, false, false] rfl rfl (zO HT_.out (by kernel_rfl)) (fun _ _ _ h => h) (Or.inl ⟨by rfl, ?_⟩) ?_ ?_
  rotate_left
  ·
   intro w'
   go_simp
   with_reducible rfl
  rotate_left
  ·
   go_simp
   rfl
  refine zR (i := 11) (N := some 24) (v := ?_) (a' := ?_) #[true, true, true, true, true, true, true, true, true, true, true, true, false, false, false, false] rfl rfl (zO HT_.out (by kernel_rfl)) (fun _ _ _ h => h) (Or.inl ⟨by rfl, ?_⟩) ?_ ?_
  rotate_left
  ·
   intro w'
   go_simp
   with_reducible rfl
  rotate_left
  ·
   go_simp
   rfl
  refine zR (i := 12) (N := some 25) (v := ?_) (a' := ?_) #[true, true, true, true, true, true, true, true, true, true, true, true, true, false, false, false] rfl rfl (zO HT_.out (by kernel_rfl)) (fun _ _ _ h => h) (Or.inl ⟨by rfl, ?_⟩) ?_ ?_
  rotate_left
  ·
   intro w'
   go_simp
   with_reducible rfl
  rotate_left
  ·
   go_simp
   rfl
  refine zR (i := 13) (N := some 10) (v := ?_) (a' := ?_) #[true, true, true, true, true, true, true, true, true, true, true, true, true, true, false, false] rfl rfl (zO HT_.out (by kernel_rfl)) (fun _ _ _ h => h) (Or.inl ⟨by rfl, ?_⟩) ?_ ?_
  rotate_left
  ·
   intro w'
   go_simp
   with_reducible rfl
  rotate_left
  ·
   go_simp
   rfl
  refine zR (i := 14) (N := some 11) (v := ?_) (a' := ?_) #[true, true, true, true, true, true, true, true, true, true, true, true, true, true, true, false] rfl rfl (zO HT_.out (by kernel_rfl)) (fun _ _ _ h => h) (Or.inl ⟨by rfl, ?_⟩) ?_ ?_
  rotate_left
  ·
   intro w'
   go_simp
   with_reducible rfl
  rotate_left
  ·
   go_simp
   rfl
  refine zR (i := 15) (N := some 12) (v := ?_) (a' := ?_) #[true, true, true, true, true, true, true, true, true, true, true, true, true, true, true, true] rfl rfl (zO HT_.out (by kernel_rfl)) (fun _ _ _ h => h) (Or.inl ⟨by rfl, ?_⟩) ?_ ?_
  rotate_left
  ·
   intro w'
   go_simp
   with_reducible rfl
  rotate_left
  ·
   go_simp
   rfl
  refine done_ (done_of HT_.out (by kernel_rfl)) ?_
  go_upto_if 27 with (fail)
  have H := HX17.out
  clear HX17
  by_cases c21 : t425 = 0
  ·
   rw [if_pos c21] at H
   have c21b0 : (t425 == 0) = true := beq_iff_eq.mpr c21
   have c21b1 : (t425 != 0) = false := bne_eq_false_iff_eq.mpr c21
   clear c21
   (first | rw [c21b0] | (simp only [zY, zZ]; rw [c21b0]) | skip)
   replace H := Option.bind_eq_some_iff.mp H
   obtain ⟨t426, A220, H⟩ := H
   replace H : (some (t426, 0)) = some (r1, r2) := H
   have A22 := zC.mk A220
   clear A220
   simp only [Option.some.injEq, Prod.mk.injEq] at H
   obtain ⟨rfl, rfl⟩ := H
   go_wp2_with (first | ((with_reducible refine zQ (f := 60) rfl ?_); refine zX (some 33) rfl rfl Try.func60 (by kernel_rfl) rfl #[.int .i64 t423, .int .i64 t424, .int .i64 a2, .int .i64 a3] rfl (by (try simp only [List.map_toArray, List.map_cons, List.map_nil]); first | done | rfl) ?_; (with_reducible refine (yN.calls k t423 t424 a2 a3 t426 _ A22.out).mono ?_); rintro e w23 ⟨v427, rfl, ho0, hb⟩; refine ⟨_, rfl, ?_⟩; have n0_ := zC.mk (Kd.R_lower ho0 (zM (by repeat (first | (with_reducible first | exact HB.out | apply zG | apply zA | apply zD | refine zH ?_ GE414.out) | exact HB.out)))); have n1_ := zC.mk (zK (g := gb414) (o := .cells #[.int .i64 a0_0, .int .i64 a0_1, .int .i64 a0_2, .int .i64 a0_3, .slice A0_4 l0_4.length c0_4] 32 (0, 0)) (by (with_reducible repeat (first | refine zE ?_ _ | refine zI ?_ | refine zF ?_ _)); exact BK414.out) hb); have n2_ := zC.mk (zL (by repeat (first | (with_reducible first | exact HB.out | apply zG | apply zA | apply zD | refine zH ?_ GE414.out) | exact HB.out)) hb); clear BK414; clear HB; have HO428 := n0_; have BK414 := n1_; have HB := n2_; clear n0_ n1_ n2_; (try clear hb); (try clear ho0)))
   go_ret2
   exact ⟨_, by first | rfl | (simp [*, errW_none, errW_some] <;> rfl), by (with_reducible repeat (first | apply Kd.R_alloc | apply Kd.R_drewN | apply Kd.R_drew)); exact HO428.out, by repeat (first | (with_reducible first | exact HB.out | apply zG | apply zA | apply zD | refine zH ?_ GE414.out) | exact HB.out)⟩
  ·
   rw [if_neg c21] at H
   have c21b0 : (t425 == 0) = false := beq_eq_false_iff_ne.mpr c21
   have c21b1 : (t425 != 0) = true := bne_iff_ne.mpr c21
   (first | rw [c21b0] | (simp only [zY, zZ]; rw [c21b0]) | skip)
   simp only [Option.some.injEq, Prod.mk.injEq] at H
   obtain ⟨rfl, rfl⟩ := H
   go_wp2
   go_ret2
   exact ⟨_, by first | rfl | (simp [*, errW_none, errW_some] <;> rfl), by first | exact Kd.R_nil _ _ _ _ _ | exact Kd.N_nil _ _ _ _ _ | exact Kd.V_nil _ _ _ _ _ | exact Kd.Q_nil _ _ _ _ _ | exact Kd.S_nil _ _ _ _ _, by repeat (first | (with_reducible first | exact HB.out | apply zG | apply zA | apply zD | refine zH ?_ GE414.out) | exact HB.out)⟩
theorem xM.calls (k : Nat) (a0_0 : Int) (a0_1 : Int) (a0_2 : Int) (a0_3 : Int) (A0_4 : Option Addr) (c0_4 : Nat) (l0_4 : List Int) (a1 : Int) (a2 : Int) (a3 : Int) (r1 : Int) (r2 : Int) (w : World) (hr0_4 : Kd.C (Kd.int .i64) w A0_4 l0_4.length l0_4) (hc0_4 : l0_4.length ≤ c0_4) (h : xM.f k a0_0 a0_1 a0_2 a0_3 l0_4 a1 a2 a3 = some (r1, r2)) :
  Calls Try.prog 15 #[.agg #[.int .i64 a0_0, .int .i64 a0_1, .int .i64 a0_2, .int .i64 a0_3, .slice A0_4 l0_4.length c0_4], .int .i64 a1, .int .i64 a2, .int .i64 a3] w fun e w' => e = .returned (.tuple #[.int .i64 r1, .int .i64 r2]) ∧ Below w.heap.size w w' := by
 have hu32 := Try.underlying32
 have HR0_4 := zC.mk hr0_4
 have HC0_4 := zC.mk hc0_4
 clear hr0_4 hc0_4
 have HB := zC.mk (Below.refl w.heap.size w)
 have H : ((xD.f k a0_0 a0_1 a0_2 a0_3 l0_4 a1 a2 a3).bind fun bt430 => (if bt430.2 = 0 then (if 0 ≤ (wrap64 (a3 - 1)) then (if (wrap64 (a3 - 1)) < (bt430.1.length : Int) then (some (wrap64 ((rd bt430.1 (wrap64 (a3 - 1))) + a2), 0)) else (none)) else (none)) else (some (0, bt430.2)))) = some (r1, r2) := h
 clear h
 replace H := Option.bind_eq_some_iff.mp H
 obtain ⟨⟨t430, t433⟩, A50, H⟩ := H
 replace H : (if t433 = 0 then (if 0 ≤ (wrap64 (a3 - 1)) then (if (wrap64 (a3 - 1)) < (t430.length : Int) then (some (wrap64 ((rd t430 (wrap64 (a3 - 1))) + a2), 0)) else (none)) else (none)) else (some (0, t433))) = some (r1, r2) := H
 have A5 := zC.mk A50
 clear A50
 by_cases c6 : t433 = 0
 ·
  rw [if_pos c6] at H
  have c6b0 : (t433 == 0) = true := beq_iff_eq.mpr c6
  have c6b1 : (t433 != 0) = false := bne_eq_false_iff_eq.mpr c6
  clear c6
  obtain ⟨ji7, hji7⟩ : ∃ j_ : Int, (wrap64 (a3 - 1)) = j_ := ⟨_, rfl⟩
  replace H : (if 0 ≤ (ji7) then (if (ji7) < (t430.length : Int) then (some (wrap64 ((rd t430 (ji7)) + a2), 0)) else (none)) else (none)) = some (r1, r2) := by first | (rw [hji7] at H; exact H) | (simp only [hji7] at H ⊢; exact H)
  (try rw [hji7] at A5)
  have hji7w : (IntKind.i64.wrap (a3 - 1)) = ji7 := (zY _).trans hji7
  by_cases c8 : 0 ≤ (ji7)
  ·
   rw [if_pos c8] at H
   have c8b0 : decide (0 ≤ (ji7)) = true := decide_eq_true c8
   clear c8
   by_cases c9 : (ji7) < (t430.length : Int)
   ·
    rw [if_pos c9] at H
    have c9b0 : decide ((ji7) < (t430.length : Int)) = true := decide_eq_true c9
    clear c9
    simp only [Option.some.injEq, Prod.mk.injEq] at H
    obtain ⟨rfl, rfl⟩ := H
    go_enter Try.func15, Try.ntmps15
    go_wp2_with (first | ((with_reducible refine zP (N := 4) rfl ?_); refine zN ?hg (N := 4) ?hd (cs := #[.int .i64 a0_0, .int .i64 a0_1, .int .i64 a0_2, .int .i64 a0_3, .slice A0_4 l0_4.length c0_4]) (t := 32) ?hr ?_; (case hd => rfl); (case hg => rfl); (case hr => first | (go_simp; done) | (go_simp; rfl)); intro gb429 hg w10 hbox hb; have n0_ := zC.mk (zL (by repeat (first | (with_reducible first | exact HB.out | apply zG | apply zA | apply zD) | exact HB.out)) hb); have n1_ := zC.mk (hbox); have n2_ := zC.mk ((by rw [hg]; exact (zM (by repeat (first | (with_reducible first | exact HB.out | apply zG | apply zA | apply zD) | exact HB.out))) : w.heap.size ≤ gb429)); have n3_ := n2_; clear HB; have HB := n0_; have BK429 := n1_; have GW429 := n2_; have GE429 := n3_; clear n0_ n1_ n2_ n3_; clear hb hbox hg; have hcz11_0 : w10.cell? ⟨gb429, 0, none⟩ = some (.int .i64 a0_0) := zB BK429.out 0; have hcz11_1 : w10.cell? ⟨gb429, 1, none⟩ = some (.int .i64 a0_1) := zB BK429.out 1; have hcz11_2 : w10.cell? ⟨gb429, 2, none⟩ = some (.int .i64 a0_2) := zB BK429.out 2; have hcz11_3 : w10.cell? ⟨gb429, 3, none⟩ = some (.int .i64 a0_3) := zB BK429.out 3; have hcz11_4 : w10.cell? ⟨gb429, 4, none⟩ = some (.slice A0_4 l0_4.length c0_4) := zB BK429.out 4; have hfz11_0 := zJ BK429.out 0; have hfz11_1 := zJ BK429.out 1; have hfz11_2 := zJ BK429.out 2; have hfz11_3 := zJ BK429.out 3; have hfz11_4 := zJ BK429.out 4) | ((with_reducible refine zQ (f := 18) rfl ?_); refine zX (some 17) rfl rfl Try.func18 (by kernel_rfl) rfl #[.agg #[.int .i64 a0_0, .int .i64 a0_1, .int .i64 a0_2, .int .i64 a0_3, .slice A0_4 l0_4.length c0_4], .int .i64 a1, .int .i64 a2, .int .i64 a3] rfl (by (try simp only [List.map_toArray, List.map_cons, List.map_nil]); first | done | rfl) ?_; (with_reducible refine (xD.calls k a0_0 a0_1 a0_2 a0_3 _ _ l0_4 a1 a2 a3 t430 t433 _ ?side1 ?side2 A5.out).mono ?_); (case side1 => repeat (first | exact (Kd.C_below HR0_4.out HB.out) | (with_reducible refine Kd.C_alloc ?_ _) | (with_reducible refine Kd.C_drewN ?_ _) | (with_reducible refine Kd.C_drew ?_))); (case side2 => exact HC0_4.out); rintro e w12 ⟨v431, rfl, ho0, hb⟩; refine ⟨_, rfl, ?_⟩; have n0_ := zC.mk (Kd.R_lower ho0 (zM (by repeat (first | (with_reducible first | exact HB.out | apply zG | apply zA | apply zD | refine zH ?_ GE429.out) | exact HB.out)))); have n1_ := zC.mk (zK (g := gb429) (o := .cells #[.int .i64 a0_0, .int .i64 a0_1, .int .i64 a0_2, .int .i64 a0_3, .slice A0_4 l0_4.length c0_4] 32 (0, 0)) (by (with_reducible repeat (first | refine zE ?_ _ | refine zI ?_ | refine zF ?_ _)); exact BK429.out) hb); have n2_ := zC.mk (zL (by repeat (first | (with_reducible first | exact HB.out | apply zG | apply zA | apply zD | refine zH ?_ GE429.out) | exact HB.out)) hb); clear BK429; clear HB; have HO432 := n0_; have BK429 := n1_; have HB := n2_; clear n0_ n1_ n2_; (try clear hb); (try clear ho0); obtain ⟨Ao13, co13, eo13⟩ := Kd.R_slice HO432.out; subst eo13; have p434 : 0 ≤ ((ji7) : Int) := of_decide_eq_true (by first | (with_reducible assumption) | assumption); have q434 : (ji7) < (t430.length : Int) := of_decide_eq_true (by first | (with_reducible assumption) | assumption); obtain ⟨ad434, e434, hx434_0⟩ := Kd.at_int (Kd.R_reads' HO432.out).2.2 (ji7) p434 q434; cases e434; replace p434 := eq_true p434; replace q434 := eq_true q434))
    go_ret2
    exact ⟨by first | rfl | (simp [errW_none, errW_some] <;> rfl) | (simp only [← hji7]; first | rfl | (simp [errW_none, errW_some] <;> rfl)) | (simp [*, errW_none, errW_some] <;> rfl), by repeat (first | (with_reducible first | exact HB.out | apply zG | apply zA | apply zD | refine zH ?_ GE429.out) | exact HB.out)⟩
   ·
    rw [if_neg c9] at H
    exact absurd H (by simp)
  ·
   rw [if_neg c8] at H
   exact absurd H (by simp)
 ·
  rw [if_neg c6] at H
  have c6b0 : (t433 == 0) = false := beq_eq_false_iff_ne.mpr c6
  have c6b1 : (t433 != 0) = true := bne_iff_ne.mpr c6
  simp only [Option.some.injEq, Prod.mk.injEq] at H
  obtain ⟨rfl, rfl⟩ := H
  go_enter Try.func15, Try.ntmps15
  go_wp2_with (first | ((with_reducible refine zP (N := 4) rfl ?_); refine zN ?hg (N := 4) ?hd (cs := #[.int .i64 a0_0, .int .i64 a0_1, .int .i64 a0_2, .int .i64 a0_3, .slice A0_4 l0_4.length c0_4]) (t := 32) ?hr ?_; (case hd => rfl); (case hg => rfl); (case hr => first | (go_simp; done) | (go_simp; rfl)); intro gb429 hg w14 hbox hb; have n0_ := zC.mk (zL (by repeat (first | (with_reducible first | exact HB.out | apply zG | apply zA | apply zD) | exact HB.out)) hb); have n1_ := zC.mk (hbox); have n2_ := zC.mk ((by rw [hg]; exact (zM (by repeat (first | (with_reducible first | exact HB.out | apply zG | apply zA | apply zD) | exact HB.out))) : w.heap.size ≤ gb429)); have n3_ := n2_; clear HB; have HB := n0_; have BK429 := n1_; have GW429 := n2_; have GE429 := n3_; clear n0_ n1_ n2_ n3_; clear hb hbox hg; have hcz15_0 : w14.cell? ⟨gb429, 0, none⟩ = some (.int .i64 a0_0) := zB BK429.out 0; have hcz15_1 : w14.cell? ⟨gb429, 1, none⟩ = some (.int .i64 a0_1) := zB BK429.out 1; have hcz15_2 : w14.cell? ⟨gb429, 2, none⟩ = some (.int .i64 a0_2) := zB BK429.out 2; have hcz15_3 : w14.cell? ⟨gb429, 3, none⟩ = some (.int .i64 a0_3) := zB BK429.out 3; have hcz15_4 : w14.cell? ⟨gb429, 4, none⟩ = some (.slice A0_4 l0_4.length c0_4) := zB BK429.out 4; have hfz15_0 := zJ BK429.out 0; have hfz15_1 := zJ BK429.out 1; have hfz15_2 := zJ BK429.out 2; have hfz15_3 := zJ BK429.out 3; have hfz15_4 := zJ BK429.out 4) | ((with_reducible refine zQ (f := 18) rfl ?_); refine zX (some 17) rfl rfl Try.func18 (by kernel_rfl) rfl #[.agg #[.int .i64 a0_0, .int .i64 a0_1, .int .i64 a0_2, .int .i64 a0_3, .slice A0_4 l0_4.length c0_4], .int .i64 a1, .int .i64 a2, .int .i64 a3] rfl (by (try simp only [List.map_toArray, List.map_cons, List.map_nil]); first | done | rfl) ?_; (with_reducible refine (xD.calls k a0_0 a0_1 a0_2 a0_3 _ _ l0_4 a1 a2 a3 t430 t433 _ ?side1 ?side2 A5.out).mono ?_); (case side1 => repeat (first | exact (Kd.C_below HR0_4.out HB.out) | (with_reducible refine Kd.C_alloc ?_ _) | (with_reducible refine Kd.C_drewN ?_ _) | (with_reducible refine Kd.C_drew ?_))); (case side2 => exact HC0_4.out); rintro e w16 ⟨v431, rfl, ho0, hb⟩; refine ⟨_, rfl, ?_⟩; have n0_ := zC.mk (Kd.R_lower ho0 (zM (by repeat (first | (with_reducible first | exact HB.out | apply zG | apply zA | apply zD | refine zH ?_ GE429.out) | exact HB.out)))); have n1_ := zC.mk (zK (g := gb429) (o := .cells #[.int .i64 a0_0, .int .i64 a0_1, .int .i64 a0_2, .int .i64 a0_3, .slice A0_4 l0_4.length c0_4] 32 (0, 0)) (by (with_reducible repeat (first | refine zE ?_ _ | refine zI ?_ | refine zF ?_ _)); exact BK429.out) hb); have n2_ := zC.mk (zL (by repeat (first | (with_reducible first | exact HB.out | apply zG | apply zA | apply zD | refine zH ?_ GE429.out) | exact HB.out)) hb); clear BK429; clear HB; have HO432 := n0_; have BK429 := n1_; have HB := n2_; clear n0_ n1_ n2_; (try clear hb); (try clear ho0)))
  go_ret2
  exact ⟨by first | rfl | (simp [*, errW_none, errW_some] <;> rfl), by repeat (first | (with_reducible first | exact HB.out | apply zG | apply zA | apply zD | refine zH ?_ GE429.out) | exact HB.out)⟩
theorem xQ.calls (k : Nat) (a0_0 : Int) (a0_1 : Int) (a0_2 : Int) (a0_3 : Int) (A0_4 : Option Addr) (c0_4 : Nat) (l0_4 : List Int) (a1 : Int) (a2 : Int) (a3 : Int) (r1 : Int) (r2 : Int) (w : World) (hr0_4 : Kd.C (Kd.int .i64) w A0_4 l0_4.length l0_4) (hc0_4 : l0_4.length ≤ c0_4) (h : xQ.f k a0_0 a0_1 a0_2 a0_3 l0_4 a1 a2 a3 = some (r1, r2)) :
  Calls Try.prog 24 #[.agg #[.int .i64 a0_0, .int .i64 a0_1, .int .i64 a0_2, .int .i64 a0_3, .slice A0_4 l0_4.length c0_4], .int .i64 a1, .int .i64 a2, .int .i64 a3] w fun e w' => e = .returned (.tuple #[.int .i64 r1, .int .i64 r2]) ∧ Below w.heap.size w w' := by
 have hu32 := Try.underlying32
 have HR0_4 := zC.mk hr0_4
 have HC0_4 := zC.mk hc0_4
 clear hr0_4 hc0_4
 have HB := zC.mk (Below.refl w.heap.size w)
 have H : ((xM.f k a0_0 a0_1 a0_2 a0_3 l0_4 a1 a2 a3).bind fun bt534 => (if bt534.2 = 0 then (some (wrap64 (bt534.1 - (wrap64 (a3 * a2))), 0)) else (some (0, bt534.2)))) = some (r1, r2) := h
 clear h
 replace H := Option.bind_eq_some_iff.mp H
 obtain ⟨⟨t534, t535⟩, A50, H⟩ := H
 replace H : (if t535 = 0 then (some (wrap64 (t534 - (wrap64 (a3 * a2))), 0)) else (some (0, t535))) = some (r1, r2) := H
 have A5 := zC.mk A50
 clear A50
 by_cases c6 : t535 = 0
 ·
  rw [if_pos c6] at H
  have c6b0 : (t535 == 0) = true := beq_iff_eq.mpr c6
  have c6b1 : (t535 != 0) = false := bne_eq_false_iff_eq.mpr c6
  clear c6
  simp only [Option.some.injEq, Prod.mk.injEq] at H
  obtain ⟨rfl, rfl⟩ := H
  go_enter Try.func24, Try.ntmps24
  go_wp2_with (first | ((with_reducible refine zP (N := 4) rfl ?_); refine zN ?hg (N := 4) ?hd (cs := #[.int .i64 a0_0, .int .i64 a0_1, .int .i64 a0_2, .int .i64 a0_3, .slice A0_4 l0_4.length c0_4]) (t := 32) ?hr ?_; (case hd => rfl); (case hg => rfl); (case hr => first | (go_simp; done) | (go_simp; rfl)); intro gb533 hg w7 hbox hb; have n0_ := zC.mk (zL (by repeat (first | (with_reducible first | exact HB.out | apply zG | apply zA | apply zD) | exact HB.out)) hb); have n1_ := zC.mk (hbox); have n2_ := zC.mk ((by rw [hg]; exact (zM (by repeat (first | (with_reducible first | exact HB.out | apply zG | apply zA | apply zD) | exact HB.out))) : w.heap.size ≤ gb533)); have n3_ := n2_; clear HB; have HB := n0_; have BK533 := n1_; have GW533 := n2_; have GE533 := n3_; clear n0_ n1_ n2_ n3_; clear hb hbox hg; have hcz8_0 : w7.cell? ⟨gb533, 0, none⟩ = some (.int .i64 a0_0) := zB BK533.out 0; have hcz8_1 : w7.cell? ⟨gb533, 1, none⟩ = some (.int .i64 a0_1) := zB BK533.out 1; have hcz8_2 : w7.cell? ⟨gb533, 2, none⟩ = some (.int .i64 a0_2) := zB BK533.out 2; have hcz8_3 : w7.cell? ⟨gb533, 3, none⟩ = some (.int .i64 a0_3) := zB BK533.out 3; have hcz8_4 : w7.cell? ⟨gb533, 4, none⟩ = some (.slice A0_4 l0_4.length c0_4) := zB BK533.out 4; have hfz8_0 := zJ BK533.out 0; have hfz8_1 := zJ BK533.out 1; have hfz8_2 := zJ BK533.out 2; have hfz8_3 := zJ BK533.out 3; have hfz8_4 := zJ BK533.out 4) | ((with_reducible refine zQ (f := 15) rfl ?_); refine zX (some 17) rfl rfl Try.func15 (by kernel_rfl) rfl #[.agg #[.int .i64 a0_0, .int .i64 a0_1, .int .i64 a0_2, .int .i64 a0_3, .slice A0_4 l0_4.length c0_4], .int .i64 a1, .int .i64 a2, .int .i64 a3] rfl (by (try simp only [List.map_toArray, List.map_cons, List.map_nil]); first | done | rfl) ?_; (with_reducible refine (xM.calls k a0_0 a0_1 a0_2 a0_3 _ _ l0_4 a1 a2 a3 t534 t535 _ ?side1 ?side2 A5.out).mono ?_); (case side1 => repeat (first | exact (Kd.C_below HR0_4.out HB.out) | (with_reducible refine Kd.C_alloc ?_ _) | (with_reducible refine Kd.C_drewN ?_ _) | (with_reducible refine Kd.C_drew ?_))); (case side2 => exact HC0_4.out); rintro e w9 ⟨rfl, hb⟩; refine ⟨_, rfl, ?_⟩; have n0_ := zC.mk (zK (g := gb533) (o := .cells #[.int .i64 a0_0, .int .i64 a0_1, .int .i64 a0_2, .int .i64 a0_3, .slice A0_4 l0_4.length c0_4] 32 (0, 0)) (by (with_reducible repeat (first | refine zE ?_ _ | refine zI ?_ | refine zF ?_ _)); exact BK533.out) hb); have n1_ := zC.mk (zL (by repeat (first | (with_reducible first | exact HB.out | apply zG | apply zA | apply zD | refine zH ?_ GE533.out) | exact HB.out)) hb); clear BK533; clear HB; have BK533 := n0_; have HB := n1_; clear n0_ n1_; (try clear hb)))
  go_ret2
  exact ⟨by first | rfl | (simp [*, errW_none, errW_some] <;> rfl), by repeat (first | (with_reducible first | exact HB.out | apply zG | apply zA | apply zD | refine zH ?_ GE533.out) | exact HB.out)⟩
 ·
  rw [if_neg c6] at H
  have c6b0 : (t535 == 0) = false := beq_eq_false_iff_ne.mpr c6
  have c6b1 : (t535 != 0) = true := bne_iff_ne.mpr c6
  simp only [Option.some.injEq, Prod.mk.injEq] at H
  obtain ⟨rfl, rfl⟩ := H
  go_enter Try.func24, Try.ntmps24
  go_wp2_with (first | ((with_reducible refine zP (N := 4) rfl ?_); refine zN ?hg (N := 4) ?hd (cs := #[.int .i64 a0_0, .int .i64 a0_1, .int .i64 a0_2, .int .i64 a0_3, .slice A0_4 l0_4.length c0_4]) (t := 32) ?hr ?_; (case hd => rfl); (case hg => rfl); (case hr => first | (go_simp; done) | (go_simp; rfl)); intro gb533 hg w10 hbox hb; have n0_ := zC.mk (zL (by repeat (first | (with_reducible first | exact HB.out | apply zG | apply zA | apply zD) | exact HB.out)) hb); have n1_ := zC.mk (hbox); have n2_ := zC.mk ((by rw [hg]; exact (zM (by repeat (first | (with_reducible first | exact HB.out | apply zG | apply zA | apply zD) | exact HB.out))) : w.heap.size ≤ gb533)); have n3_ := n2_; clear HB; have HB := n0_; have BK533 := n1_; have GW533 := n2_; have GE533 := n3_; clear n0_ n1_ n2_ n3_; clear hb hbox hg; have hcz11_0 : w10.cell? ⟨gb533, 0, none⟩ = some (.int .i64 a0_0) := zB BK533.out 0; have hcz11_1 : w10.cell? ⟨gb533, 1, none⟩ = some (.int .i64 a0_1) := zB BK533.out 1; have hcz11_2 : w10.cell? ⟨gb533, 2, none⟩ = some (.int .i64 a0_2) := zB BK533.out 2; have hcz11_3 : w10.cell? ⟨gb533, 3, none⟩ = some (.int .i64 a0_3) := zB BK533.out 3; have hcz11_4 : w10.cell? ⟨gb533, 4, none⟩ = some (.slice A0_4 l0_4.length c0_4) := zB BK533.out 4; have hfz11_0 := zJ BK533.out 0; have hfz11_1 := zJ BK533.out 1; have hfz11_2 := zJ BK533.out 2; have hfz11_3 := zJ BK533.out 3; have hfz11_4 := zJ BK533.out 4) | ((with_reducible refine zQ (f := 15) rfl ?_); refine zX (some 17) rfl rfl Try.func15 (by kernel_rfl) rfl #[.agg #[.int .i64 a0_0, .int .i64 a0_1, .int .i64 a0_2, .int .i64 a0_3, .slice A0_4 l0_4.length c0_4], .int .i64 a1, .int .i64 a2, .int .i64 a3] rfl (by (try simp only [List.map_toArray, List.map_cons, List.map_nil]); first | done | rfl) ?_; (with_reducible refine (xM.calls k a0_0 a0_1 a0_2 a0_3 _ _ l0_4 a1 a2 a3 t534 t535 _ ?side1 ?side2 A5.out).mono ?_); (case side1 => repeat (first | exact (Kd.C_below HR0_4.out HB.out) | (with_reducible refine Kd.C_alloc ?_ _) | (with_reducible refine Kd.C_drewN ?_ _) | (with_reducible refine Kd.C_drew ?_))); (case side2 => exact HC0_4.out); rintro e w12 ⟨rfl, hb⟩; refine ⟨_, rfl, ?_⟩; have n0_ := zC.mk (zK (g := gb533) (o := .cells #[.int .i64 a0_0, .int .i64 a0_1, .int .i64 a0_2, .int .i64 a0_3, .slice A0_4 l0_4.length c0_4] 32 (0, 0)) (by (with_reducible repeat (first | refine zE ?_ _ | refine zI ?_ | refine zF ?_ _)); exact BK533.out) hb); have n1_ := zC.mk (zL (by repeat (first | (with_reducible first | exact HB.out | apply zG | apply zA | apply zD | refine zH ?_ GE533.out) | exact HB.out)) hb); clear BK533; clear HB; have BK533 := n0_; have HB := n1_; clear n0_ n1_; (try clear hb)))
  go_ret2
  exact ⟨by first | rfl | (simp [*, errW_none, errW_some] <;> rfl), by repeat (first | (with_reducible first | exact HB.out | apply zG | apply zA | apply zD | refine zH ?_ GE533.out) | exact HB.out)⟩
theorem xG.calls (k : Nat) (a0_0 : Int) (a0_1 : Int) (a0_2 : Int) (a0_3 : Int) (A0_4 : Option Addr) (c0_4 : Nat) (l0_4 : List Int) (a1 : Int) (a2 : Int) (a3 : Int) (r : Bool) (w : World) (hr0_4 : Kd.C (Kd.int .i64) w A0_4 l0_4.length l0_4) (hc0_4 : l0_4.length ≤ c0_4) (h : xG.f k a0_0 a0_1 a0_2 a0_3 l0_4 a1 a2 a3 = some r) :
  Calls Try.prog 5 #[.agg #[.int .i64 a0_0, .int .i64 a0_1, .int .i64 a0_2, .int .i64 a0_3, .slice A0_4 l0_4.length c0_4], .int .i64 a1, .int .i64 a2, .int .i64 a3] w fun e w' => e = .returned (.bool r) ∧ Below w.heap.size w w' := by
 have hu26 := Try.underlying26
 have hu32 := Try.underlying32
 have HR0_4 := zC.mk hr0_4
 have HC0_4 := zC.mk hc0_4
 clear hr0_4 hc0_4
 have HB := zC.mk (Below.refl w.heap.size w)
 have H : ((wM.f a0_0 a0_1 a0_2 a0_3 l0_4 1048576).bind fun t537 => (if t537 < 0 then (some true) else ((xF.f k a0_0 a0_1 a0_2 a0_3 l0_4).bind fun bt538 => ((xT.f k bt538.1 bt538.2.1 bt538.2.2.1 bt538.2.2.2.1 bt538.2.2.2.2 a1 a2 a3).bind fun bt545 => ((xF.f k a0_0 a0_1 a0_2 a0_3 l0_4).bind fun bt547 => ((xQ.f k bt547.1 bt547.2.1 bt547.2.2.1 bt547.2.2.2.1 bt547.2.2.2.2 a1 a2 a3).bind fun bt555 => (if bt555.1 = bt545.1 then (if bt555.2 = bt545.2 then ((xF.f k a0_0 a0_1 a0_2 a0_3 l0_4).bind fun bt557 => ((xK.f k bt547.1 bt547.2.1 bt547.2.2.1 bt547.2.2.2.1 bt547.2.2.2.2 bt557.1 bt557.2.1 bt557.2.2.1 bt557.2.2.2.1 bt557.2.2.2.2).bind fun t564 => (if t564 = true then (some true) else (none)))) else (none)) else (none)))))))) = some r := h
 clear h
 replace H := Option.bind_eq_some_iff.mp H
 obtain ⟨t537, A50, H⟩ := H
 replace H : (if t537 < 0 then (some true) else ((xF.f k a0_0 a0_1 a0_2 a0_3 l0_4).bind fun bt538 => ((xT.f k bt538.1 bt538.2.1 bt538.2.2.1 bt538.2.2.2.1 bt538.2.2.2.2 a1 a2 a3).bind fun bt545 => ((xF.f k a0_0 a0_1 a0_2 a0_3 l0_4).bind fun bt547 => ((xQ.f k bt547.1 bt547.2.1 bt547.2.2.1 bt547.2.2.2.1 bt547.2.2.2.2 a1 a2 a3).bind fun bt555 => (if bt555.1 = bt545.1 then (if bt555.2 = bt545.2 then ((xF.f k a0_0 a0_1 a0_2 a0_3 l0_4).bind fun bt557 => ((xK.f k bt547.1 bt547.2.1 bt547.2.2.1 bt547.2.2.2.1 bt547.2.2.2.2 bt557.1 bt557.2.1 bt557.2.2.1 bt557.2.2.2.1 bt557.2.2.2.2).bind fun t564 => (if t564 = true then (some true) else (none)))) else (none)) else (none))))))) = some r := H
 have A5 := zC.mk A50
 clear A50
 by_cases c6 : t537 < 0
 ·
  rw [if_pos c6] at H
  have c6b0 : decide (t537 < 0) = true := decide_eq_true c6
  clear c6
  obtain rfl := Option.some.inj H
  go_enter Try.func5, Try.ntmps5
  go_wp2_with (first | ((with_reducible refine zP (N := 4) rfl ?_); refine zN ?hg (N := 4) ?hd (cs := #[.int .i64 a0_0, .int .i64 a0_1, .int .i64 a0_2, .int .i64 a0_3, .slice A0_4 l0_4.length c0_4]) (t := 26) ?hr ?_; (case hd => rfl); (case hg => rfl); (case hr => first | (go_simp; done) | (go_simp; rfl)); intro gb536 hg w7 hbox hb; have n0_ := zC.mk (zL (by repeat (first | (with_reducible first | exact HB.out | apply zG | apply zA | apply zD) | exact HB.out)) hb); have n1_ := zC.mk (hbox); have n2_ := zC.mk ((by rw [hg]; exact (zM (by repeat (first | (with_reducible first | exact HB.out | apply zG | apply zA | apply zD) | exact HB.out))) : w.heap.size ≤ gb536)); have n3_ := n2_; clear HB; have HB := n0_; have BK536 := n1_; have GW536 := n2_; have GE536 := n3_; clear n0_ n1_ n2_ n3_; clear hb hbox hg; have hcz8_0 : w7.cell? ⟨gb536, 0, none⟩ = some (.int .i64 a0_0) := zB BK536.out 0; have hcz8_1 : w7.cell? ⟨gb536, 1, none⟩ = some (.int .i64 a0_1) := zB BK536.out 1; have hcz8_2 : w7.cell? ⟨gb536, 2, none⟩ = some (.int .i64 a0_2) := zB BK536.out 2; have hcz8_3 : w7.cell? ⟨gb536, 3, none⟩ = some (.int .i64 a0_3) := zB BK536.out 3; have hcz8_4 : w7.cell? ⟨gb536, 4, none⟩ = some (.slice A0_4 l0_4.length c0_4) := zB BK536.out 4; have hfz8_0 := zJ BK536.out 0; have hfz8_1 := zJ BK536.out 1; have hfz8_2 := zJ BK536.out 2; have hfz8_3 := zJ BK536.out 3; have hfz8_4 := zJ BK536.out 4) | ((with_reducible refine zQ (f := 12) rfl ?_); refine zX (some 17) rfl rfl Try.func12 (by kernel_rfl) rfl #[.agg #[.int .i64 a0_0, .int .i64 a0_1, .int .i64 a0_2, .int .i64 a0_3, .slice A0_4 l0_4.length c0_4], .int .i64 1048576] rfl (by (try simp only [List.map_toArray, List.map_cons, List.map_nil]); first | done | rfl) ?_; (with_reducible refine (wM.calls a0_0 a0_1 a0_2 a0_3 _ _ l0_4 1048576 t537 _ ?side1 ?side2 A5.out).mono ?_); (case side1 => repeat (first | exact (Kd.C_below HR0_4.out HB.out) | (with_reducible refine Kd.C_alloc ?_ _) | (with_reducible refine Kd.C_drewN ?_ _) | (with_reducible refine Kd.C_drew ?_))); (case side2 => exact HC0_4.out); rintro e w9 ⟨rfl, hb⟩; refine ⟨_, rfl, ?_⟩; have n0_ := zC.mk (zK (g := gb536) (o := .cells #[.int .i64 a0_0, .int .i64 a0_1, .int .i64 a0_2, .int .i64 a0_3, .slice A0_4 l0_4.length c0_4] 26 (0, 0)) (by (with_reducible repeat (first | refine zE ?_ _ | refine zI ?_ | refine zF ?_ _)); exact BK536.out) hb); have n1_ := zC.mk (zL (by repeat (first | (with_reducible first | exact HB.out | apply zG | apply zA | apply zD | refine zH ?_ GE536.out) | exact HB.out)) hb); clear BK536; clear HB; have BK536 := n0_; have HB := n1_; clear n0_ n1_; (try clear hb)))
  go_ret
  exact ⟨by first | rfl | (simp [*, errW_none, errW_some] <;> rfl), by repeat (first | (with_reducible first | exact HB.out | apply zG | apply zA | apply zD | refine zH ?_ GE536.out) | exact HB.out)⟩
 ·
  rw [if_neg c6] at H
  have c6b0 : decide (t537 < 0) = false := decide_eq_false c6
  clear c6
  replace H := Option.bind_eq_some_iff.mp H
  obtain ⟨⟨t538, t539, t540, t541, t542⟩, A100, H⟩ := H
  replace H : ((xT.f k t538 t539 t540 t541 t542 a1 a2 a3).bind fun bt545 => ((xF.f k a0_0 a0_1 a0_2 a0_3 l0_4).bind fun bt547 => ((xQ.f k bt547.1 bt547.2.1 bt547.2.2.1 bt547.2.2.2.1 bt547.2.2.2.2 a1 a2 a3).bind fun bt555 => (if bt555.1 = bt545.1 then (if bt555.2 = bt545.2 then ((xF.f k a0_0 a0_1 a0_2 a0_3 l0_4).bind fun bt557 => ((xK.f k bt547.1 bt547.2.1 bt547.2.2.1 bt547.2.2.2.1 bt547.2.2.2.2 bt557.1 bt557.2.1 bt557.2.2.1 bt557.2.2.2.1 bt557.2.2.2.2).bind fun t564 => (if t564 = true then (some true) else (none)))) else (none)) else (none))))) = some r := H
  have A10 := zC.mk A100
  clear A100
  replace H := Option.bind_eq_some_iff.mp H
  obtain ⟨⟨t545, t546⟩, A110, H⟩ := H
  replace H : ((xF.f k a0_0 a0_1 a0_2 a0_3 l0_4).bind fun bt547 => ((xQ.f k bt547.1 bt547.2.1 bt547.2.2.1 bt547.2.2.2.1 bt547.2.2.2.2 a1 a2 a3).bind fun bt555 => (if bt555.1 = t545 then (if bt555.2 = t546 then ((xF.f k a0_0 a0_1 a0_2 a0_3 l0_4).bind fun bt557 => ((xK.f k bt547.1 bt547.2.1 bt547.2.2.1 bt547.2.2.2.1 bt547.2.2.2.2 bt557.1 bt557.2.1 bt557.2.2.1 bt557.2.2.2.1 bt557.2.2.2.2).bind fun t564 => (if t564 = true then (some true) else (none)))) else (none)) else (none)))) = some r := H
  have A11 := zC.mk A110
  clear A110
  replace H := Option.bind_eq_some_iff.mp H
  obtain ⟨⟨t547, t548, t549, t550, t551⟩, A120, H⟩ := H
  replace H : ((xQ.f k t547 t548 t549 t550 t551 a1 a2 a3).bind fun bt555 => (if bt555.1 = t545 then (if bt555.2 = t546 then ((xF.f k a0_0 a0_1 a0_2 a0_3 l0_4).bind fun bt557 => ((xK.f k t547 t548 t549 t550 t551 bt557.1 bt557.2.1 bt557.2.2.1 bt557.2.2.2.1 bt557.2.2.2.2).bind fun t564 => (if t564 = true then (some true) else (none)))) else (none)) else (none))) = some r := H
  have A12 := zC.mk A120
  clear A120
  replace H := Option.bind_eq_some_iff.mp H
  obtain ⟨⟨t555, t556⟩, A130, H⟩ := H
  replace H : (if t555 = t545 then (if t556 = t546 then ((xF.f k a0_0 a0_1 a0_2 a0_3 l0_4).bind fun bt557 => ((xK.f k t547 t548 t549 t550 t551 bt557.1 bt557.2.1 bt557.2.2.1 bt557.2.2.2.1 bt557.2.2.2.2).bind fun t564 => (if t564 = true then (some true) else (none)))) else (none)) else (none)) = some r := H
  have A13 := zC.mk A130
  clear A130
  by_cases c14 : t555 = t545
  ·
   rw [if_pos c14] at H
   have c14b0 : (t555 == t545) = true := beq_iff_eq.mpr c14
   have c14b1 : (t555 != t545) = false := bne_eq_false_iff_eq.mpr c14
   clear c14
   by_cases c15 : t556 = t546
   ·
    rw [if_pos c15] at H
    have c15b0 : (t556 == t546) = true := beq_iff_eq.mpr c15
    have c15b1 : (t556 != t546) = false := bne_eq_false_iff_eq.mpr c15
    clear c15
    replace H := Option.bind_eq_some_iff.mp H
    obtain ⟨⟨t557, t558, t559, t560, t561⟩, A160, H⟩ := H
    replace H : ((xK.f k t547 t548 t549 t550 t551 t557 t558 t559 t560 t561).bind fun t564 => (if t564 = true then (some true) else (none))) = some r := H
    have A16 := zC.mk A160
    clear A160
    replace H := Option.bind_eq_some_iff.mp H
    obtain ⟨t564, A170, H⟩ := H
    replace H : (if t564 = true then (some true) else (none)) = some r := H
    have A17 := zC.mk A170
    clear A170
    by_cases c18 : t564 = true
    ·
     subst c18
     have H1 : (some true) = some r := by rw [if_pos rfl] at H; exact H
     clear H
     have H := H1
     clear H1
     obtain rfl := Option.some.inj H
     go_enter Try.func5, Try.ntmps5
     try go_wp2_with (first | ((with_reducible refine zP (N := 4) rfl ?_); refine zN ?hg (N := 4) ?hd (cs := #[.int .i64 a0_0, .int .i64 a0_1, .int .i64 a0_2, .int .i64 a0_3, .slice A0_4 l0_4.length c0_4]) (t := 26) ?hr ?_; (case hd => rfl); (case hg => rfl); (case hr => first | (go_simp; done) | (go_simp; rfl)); intro gb536 hg w19 hbox hb; have n0_ := zC.mk (zL (by repeat (first | (with_reducible first | exact HB.out | apply zG | apply zA | apply zD) | exact HB.out)) hb); have n1_ := zC.mk (hbox); have n2_ := zC.mk ((by rw [hg]; exact (zM (by repeat (first | (with_reducible first | exact HB.out | apply zG | apply zA | apply zD) | exact HB.out))) : w.heap.size ≤ gb536)); have n3_ := n2_; clear HB; have HB := n0_; have BK536 := n1_; have GW536 := n2_; have GE536 := n3_; clear n0_ n1_ n2_ n3_; clear hb hbox hg; have hcz20_0 : w19.cell? ⟨gb536, 0, none⟩ = some (.int .i64 a0_0) := zB BK536.out 0; have hcz20_1 : w19.cell? ⟨gb536, 1, none⟩ = some (.int .i64 a0_1) := zB BK536.out 1; have hcz20_2 : w19.cell? ⟨gb536, 2, none⟩ = some (.int .i64 a0_2) := zB BK536.out 2; have hcz20_3 : w19.cell? ⟨gb536, 3, none⟩ = some (.int .i64 a0_3) := zB BK536.out 3; have hcz20_4 : w19.cell? ⟨gb536, 4, none⟩ = some (.slice A0_4 l0_4.length c0_4) := zB BK536.out 4; have hfz20_0 := zJ BK536.out 0; have hfz20_1 := zJ BK536.out 1; have hfz20_2 := zJ BK536.out 2; have hfz20_3 := zJ BK536.out 3; have hfz20_4 := zJ BK536.out 4) | ((with_reducible refine zQ (f := 12) rfl ?_); refine zX (some 17) rfl rfl Try.func12 (by kernel_rfl) rfl #[.agg #[.int .i64 a0_0, .int .i64 a0_1, .int .i64 a0_2, .int .i64 a0_3, .slice A0_4 l0_4.length c0_4], .int .i64 1048576] rfl (by (try simp only [List.map_toArray, List.map_cons, List.map_nil]); first | done | rfl) ?_; (with_reducible refine (wM.calls a0_0 a0_1 a0_2 a0_3 _ _ l0_4 1048576 t537 _ ?side1 ?side2 A5.out).mono ?_); (case side1 => repeat (first | exact (Kd.C_below HR0_4.out HB.out) | (with_reducible refine Kd.C_alloc ?_ _) | (with_reducible refine Kd.C_drewN ?_ _) | (with_reducible refine Kd.C_drew ?_))); (case side2 => exact HC0_4.out); rintro e w21 ⟨rfl, hb⟩; refine ⟨_, rfl, ?_⟩; have n0_ := zC.mk (zK (g := gb536) (o := .cells #[.int .i64 a0_0, .int .i64 a0_1, .int .i64 a0_2, .int .i64 a0_3, .slice A0_4 l0_4.length c0_4] 26 (0, 0)) (by (with_reducible repeat (first | refine zE ?_ _ | refine zI ?_ | refine zF ?_ _)); exact BK536.out) hb); have n1_ := zC.mk (zL (by repeat (first | (with_reducible first | exact HB.out | apply zG | apply zA | apply zD | refine zH ?_ GE536.out) | exact HB.out)) hb); clear BK536; clear HB; have BK536 := n0_; have HB := n1_; clear n0_ n1_; (try clear hb); have hcz22_0 : w21.cell? ⟨gb536, 0, none⟩ = some (.int .i64 a0_0) := zB BK536.out 0; have hcz22_1 : w21.cell? ⟨gb536, 1, none⟩ = some (.int .i64 a0_1) := zB BK536.out 1; have hcz22_2 : w21.cell? ⟨gb536, 2, none⟩ = some (.int .i64 a0_2) := zB BK536.out 2; have hcz22_3 : w21.cell? ⟨gb536, 3, none⟩ = some (.int .i64 a0_3) := zB BK536.out 3; have hcz22_4 : w21.cell? ⟨gb536, 4, none⟩ = some (.slice A0_4 l0_4.length c0_4) := zB BK536.out 4; have hfz22_0 := zJ BK536.out 0; have hfz22_1 := zJ BK536.out 1; have hfz22_2 := zJ BK536.out 2; have hfz22_3 := zJ BK536.out 3; have hfz22_4 := zJ BK536.out 4) | ((with_reducible refine zQ (f := 14) rfl ?_); refine zX (some 22) rfl rfl Try.func14 (by kernel_rfl) rfl #[.agg #[.int .i64 a0_0, .int .i64 a0_1, .int .i64 a0_2, .int .i64 a0_3, .slice A0_4 l0_4.length c0_4]] rfl (by (try simp only [List.map_toArray, List.map_cons, List.map_nil]); first | done | rfl) ?_; (with_reducible refine (xF.calls k a0_0 a0_1 a0_2 a0_3 _ _ l0_4 t538 t539 t540 t541 t542 _ ?side1 ?side2 A10.out).mono ?_); (case side1 => repeat (first | exact (Kd.C_below HR0_4.out HB.out) | (with_reducible refine Kd.C_alloc ?_ _) | (with_reducible refine Kd.C_drewN ?_ _) | (with_reducible refine Kd.C_drew ?_))); (case side2 => exact HC0_4.out); rintro e w23 ⟨v543, rfl, ho0, hb⟩; refine ⟨_, rfl, ?_⟩; have n0_ := zC.mk (Kd.R_lower ho0 (zM (by repeat (first | (with_reducible first | exact HB.out | apply zG | apply zA | apply zD | refine zH ?_ GE536.out) | exact HB.out)))); have n1_ := zC.mk (zK (g := gb536) (o := .cells #[.int .i64 a0_0, .int .i64 a0_1, .int .i64 a0_2, .int .i64 a0_3, .slice A0_4 l0_4.length c0_4] 26 (0, 0)) (by (with_reducible repeat (first | refine zE ?_ _ | refine zI ?_ | refine zF ?_ _)); exact BK536.out) hb); have n2_ := zC.mk (zL (by repeat (first | (with_reducible first | exact HB.out | apply zG | apply zA | apply zD | refine zH ?_ GE536.out) | exact HB.out)) hb); clear BK536; clear HB; have HO544 := n0_; have BK536 := n1_; have HB := n2_; clear n0_ n1_ n2_; (try clear hb); (try clear ho0); obtain ⟨Ao24, co24, eo24⟩ := Kd.R_slice HO544.out; subst eo24) | ((with_reducible refine zQ (f := 23) rfl ?_); refine zX (some 26) rfl rfl Try.func23 (by kernel_rfl) rfl #[.agg #[.int .i64 t538, .int .i64 t539, .int .i64 t540, .int .i64 t541, .slice Ao24 t542.length co24], .int .i64 a1, .int .i64 a2, .int .i64 a3] rfl (by (try simp only [List.map_toArray, List.map_cons, List.map_nil]); first | done | rfl) ?_; (with_reducible refine (xT.calls k t538 t539 t540 t541 _ _ t542 a1 a2 a3 t545 t546 _ ?side1 ?side2 A11.out).mono ?_); (case side1 => repeat (first | exact (Kd.R_reads' HO544.out).2.2 | (with_reducible refine Kd.C_alloc ?_ _) | (with_reducible refine Kd.C_drewN ?_ _) | (with_reducible refine Kd.C_drew ?_))); (case side2 => exact (Kd.R_reads' HO544.out).2.1); rintro e w25 ⟨rfl, hb⟩; refine ⟨_, rfl, ?_⟩; have n0_ := zC.mk (Kd.R_below (by (with_reducible repeat (first | apply Kd.R_alloc | apply Kd.R_drewN | apply Kd.R_drew)); exact HO544.out) hb); have n1_ := zC.mk (zK (g := gb536) (o := .cells #[.int .i64 a0_0, .int .i64 a0_1, .int .i64 a0_2, .int .i64 a0_3, .slice A0_4 l0_4.length c0_4] 26 (0, 0)) (by (with_reducible repeat (first | refine zE ?_ _ | refine zI ?_ | refine zF ?_ _)); exact BK536.out) hb); have n2_ := zC.mk (zL (by repeat (first | (with_reducible first | exact HB.out | apply zG | apply zA | apply zD | refine zH ?_ GE536.out) | exact HB.out)) hb); clear HO544; clear BK536; clear HB; have HO544 := n0_; have BK536 := n1_; have HB := n2_; clear n0_ n1_ n2_; (try clear hb); have hcz26_0 : w25.cell? ⟨gb536, 0, none⟩ = some (.int .i64 a0_0) := zB BK536.out 0; have hcz26_1 : w25.cell? ⟨gb536, 1, none⟩ = some (.int .i64 a0_1) := zB BK536.out 1; have hcz26_2 : w25.cell? ⟨gb536, 2, none⟩ = some (.int .i64 a0_2) := zB BK536.out 2; have hcz26_3 : w25.cell? ⟨gb536, 3, none⟩ = some (.int .i64 a0_3) := zB BK536.out 3; have hcz26_4 : w25.cell? ⟨gb536, 4, none⟩ = some (.slice A0_4 l0_4.length c0_4) := zB BK536.out 4; have hfz26_0 := zJ BK536.out 0; have hfz26_1 := zJ BK536.out 1; have hfz26_2 := zJ BK536.out 2; have hfz26_3 := zJ BK536.out 3; have hfz26_4 := zJ BK536.out 4) | ((with_reducible refine zQ (f := 14) rfl ?_); refine zX (some 30) rfl rfl Try.func14 (by kernel_rfl) rfl #[.agg #[.int .i64 a0_0, .int .i64 a0_1, .int .i64 a0_2, .int .i64 a0_3, .slice A0_4 l0_4.length c0_4]] rfl (by (try simp only [List.map_toArray, List.map_cons, List.map_nil]); first | done | rfl) ?_; (with_reducible refine (xF.calls k a0_0 a0_1 a0_2 a0_3 _ _ l0_4 t547 t548 t549 t550 t551 _ ?side1 ?side2 A12.out).mono ?_); (case side1 => repeat (first | exact (Kd.C_below HR0_4.out HB.out) | (with_reducible refine Kd.C_alloc ?_ _) | (with_reducible refine Kd.C_drewN ?_ _) | (with_reducible refine Kd.C_drew ?_))); (case side2 => exact HC0_4.out); rintro e w27 ⟨v552, rfl, ho0, hb⟩; refine ⟨_, rfl, ?_⟩; have n0_ := zC.mk (Kd.R_elder' (by (with_reducible repeat (first | apply Kd.R_alloc | apply Kd.R_drewN | apply Kd.R_drew)); exact HO544.out) (Kd.R_base ho0) hb); have n1_ := zC.mk (Kd.R_lower (Kd.R_new' ho0 (Kd.R_lt (by (with_reducible repeat (first | apply Kd.R_alloc | apply Kd.R_drewN | apply Kd.R_drew)); exact HO544.out))) (zM (by repeat (first | (with_reducible first | exact HB.out | apply zG | apply zA | apply zD | refine zH ?_ GE536.out) | exact HB.out)))); have n2_ := zC.mk (zK (g := gb536) (o := .cells #[.int .i64 a0_0, .int .i64 a0_1, .int .i64 a0_2, .int .i64 a0_3, .slice A0_4 l0_4.length c0_4] 26 (0, 0)) (by (with_reducible repeat (first | refine zE ?_ _ | refine zI ?_ | refine zF ?_ _)); exact BK536.out) hb); have n3_ := zC.mk (zL (by repeat (first | (with_reducible first | exact HB.out | apply zG | apply zA | apply zD | refine zH ?_ GE536.out) | exact HB.out)) hb); clear HO544; clear BK536; clear HB; have HO544 := n0_; have HO553 := n1_; have BK536 := n2_; have HB := n3_; clear n0_ n1_ n2_ n3_; (try clear hb); (try clear ho0)) | ((with_reducible refine zP (N := 12) rfl ?_); refine zN ?hg (N := 12) ?hd (cs := #[.int .i64 0, .int .i64 0, .int .i64 0, .int .i64 0, .slice none 0 0]) (t := 32) ?hr ?_; (case hd => rfl); (case hg => rfl); (case hr => first | (go_simp; done) | (go_simp; rfl)); intro gb554 hg w28 hbox hb; have n0_ := zC.mk (Kd.R_below (by (with_reducible repeat (first | apply Kd.R_alloc | apply Kd.R_drewN | apply Kd.R_drew)); exact HO544.out) hb); have n1_ := zC.mk (Kd.R_below (by (with_reducible repeat (first | apply Kd.R_alloc | apply Kd.R_drewN | apply Kd.R_drew)); exact HO553.out) hb); have n2_ := zC.mk (zK (g := gb536) (o := .cells #[.int .i64 a0_0, .int .i64 a0_1, .int .i64 a0_2, .int .i64 a0_3, .slice A0_4 l0_4.length c0_4] 26 (0, 0)) (by (with_reducible repeat (first | refine zE ?_ _ | refine zI ?_ | refine zF ?_ _)); exact BK536.out) hb); have n3_ := zC.mk (zL (by repeat (first | (with_reducible first | exact HB.out | apply zG | apply zA | apply zD | refine zH ?_ GE536.out) | exact HB.out)) hb); have n4_ := zC.mk (hbox); have n5_ := zC.mk ((by rw [hg]; exact (zM (by repeat (first | (with_reducible first | exact HB.out | apply zG | apply zA | apply zD | refine zH ?_ GE536.out) | exact HB.out))) : w.heap.size ≤ gb554)); have n6_ := n5_; have n7_ := zC.mk ((by rw [hg]; exact Nat.ne_of_lt (zV (by (with_reducible repeat (first | refine zE ?_ _ | refine zI ?_ | refine zF ?_ _)); exact BK536.out)) : gb536 ≠ gb554)); have n8_ := zC.mk n7_.out.symm; clear HO544; clear HO553; clear BK536; clear HB; have HO544 := n0_; have HO553 := n1_; have BK536 := n2_; have HB := n3_; have BK554 := n4_; have GW554 := n5_; have GE554 := n6_; have NB536_554 := n7_; have NB554_536 := n8_; clear n0_ n1_ n2_ n3_ n4_ n5_ n6_ n7_ n8_; clear hb hbox hg; have hnb29 := NB554_536.out; have hnc29 := NB536_554.out; have hcz30_0 : w28.cell? ⟨gb554, 0, none⟩ = some (.int .i64 0) := zB BK554.out 0; have hcz30_1 : w28.cell? ⟨gb554, 1, none⟩ = some (.int .i64 0) := zB BK554.out 1; have hcz30_2 : w28.cell? ⟨gb554, 2, none⟩ = some (.int .i64 0) := zB BK554.out 2; have hcz30_3 : w28.cell? ⟨gb554, 3, none⟩ = some (.int .i64 0) := zB BK554.out 3; have hcz30_4 : w28.cell? ⟨gb554, 4, none⟩ = some (.slice none 0 0) := zB BK554.out 4; have hfz30_0 := zJ BK554.out 0; have hfz30_1 := zJ BK554.out 1; have hfz30_2 := zJ BK554.out 2; have hfz30_3 := zJ BK554.out 3; have hfz30_4 := zJ BK554.out 4; obtain ⟨Ao31, co31, eo31⟩ := Kd.R_slice HO553.out; subst eo31) | ((with_reducible refine zQ (f := 24) rfl ?_); refine zX (some 36) rfl rfl Try.func24 (by kernel_rfl) rfl #[.agg #[.int .i64 t547, .int .i64 t548, .int .i64 t549, .int .i64 t550, .slice Ao31 t551.length co31], .int .i64 a1, .int .i64 a2, .int .i64 a3] rfl (by (try simp only [List.map_toArray, List.map_cons, List.map_nil]); first | done | rfl) ?_; (with_reducible refine (xQ.calls k t547 t548 t549 t550 _ _ t551 a1 a2 a3 t555 t556 _ ?side1 ?side2 A13.out).mono ?_); (case side1 => refine (Kd.R_reads' (e := 2) (base := w.heap.size) (ok := fun k_ => (True ∧ some k_ ≠ (.slice Ao24 t542.length co24 : Value).ownBlock)) (n := t551.length) (c := co31) ?_).2.2; exact (by (with_reducible repeat (first | apply Kd.R_alloc | apply Kd.R_drewN | apply Kd.R_drew)); exact (Kd.R_mono (Kd.R_far (p := ⟨gb554, 4, none⟩) (Kd.R_far (p := ⟨gb554, 3, none⟩) (Kd.R_far (p := ⟨gb554, 2, none⟩) (Kd.R_far (p := ⟨gb554, 1, none⟩) (Kd.R_far (p := ⟨gb554, 0, none⟩) (Kd.R_types HO553.out BK554.out (by decide)) (fun _ hk => hk.2) (.int .i64 t547)) (fun _ hk => hk.2) (.int .i64 t548)) (fun _ hk => hk.2) (.int .i64 t549)) (fun _ hk => hk.2) (.int .i64 t550)) (fun _ hk => hk.2) (.slice Ao31 t551.length co31)) (fun _ h_ => h_.1)))); (case side2 => exact (Kd.R_reads' HO553.out).2.1); rintro e w32 ⟨rfl, hb⟩; refine ⟨_, rfl, ?_⟩; have n0_ := zC.mk (Kd.R_below (by (with_reducible repeat (first | apply Kd.R_alloc | apply Kd.R_drewN | apply Kd.R_drew)); exact (Kd.R_mono (Kd.R_far (p := ⟨gb554, 4, none⟩) (Kd.R_far (p := ⟨gb554, 3, none⟩) (Kd.R_far (p := ⟨gb554, 2, none⟩) (Kd.R_far (p := ⟨gb554, 1, none⟩) (Kd.R_far (p := ⟨gb554, 0, none⟩) (Kd.R_types HO544.out BK554.out (by decide)) (fun _ hk => hk.2) (.int .i64 t547)) (fun _ hk => hk.2) (.int .i64 t548)) (fun _ hk => hk.2) (.int .i64 t549)) (fun _ hk => hk.2) (.int .i64 t550)) (fun _ hk => hk.2) (.slice Ao31 t551.length co31)) (fun _ h_ => h_.1))) hb); have n1_ := zC.mk (Kd.R_below (by (with_reducible repeat (first | apply Kd.R_alloc | apply Kd.R_drewN | apply Kd.R_drew)); exact (Kd.R_mono (Kd.R_far (p := ⟨gb554, 4, none⟩) (Kd.R_far (p := ⟨gb554, 3, none⟩) (Kd.R_far (p := ⟨gb554, 2, none⟩) (Kd.R_far (p := ⟨gb554, 1, none⟩) (Kd.R_far (p := ⟨gb554, 0, none⟩) (Kd.R_types HO553.out BK554.out (by decide)) (fun _ hk => hk.2) (.int .i64 t547)) (fun _ hk => hk.2) (.int .i64 t548)) (fun _ hk => hk.2) (.int .i64 t549)) (fun _ hk => hk.2) (.int .i64 t550)) (fun _ hk => hk.2) (.slice Ao31 t551.length co31)) (fun _ h_ => h_.1))) hb); have n2_ := zC.mk (zK (g := gb536) (o := .cells #[.int .i64 a0_0, .int .i64 a0_1, .int .i64 a0_2, .int .i64 a0_3, .slice A0_4 l0_4.length c0_4] 26 (0, 0)) (by (with_reducible repeat (first | refine zE ?_ _ | refine zI ?_ | refine zF ?_ _)); refine zU ?_ NB536_554.out _; (with_reducible repeat (first | refine zE ?_ _ | refine zI ?_ | refine zF ?_ _)); refine zU ?_ NB536_554.out _; (with_reducible repeat (first | refine zE ?_ _ | refine zI ?_ | refine zF ?_ _)); refine zU ?_ NB536_554.out _; (with_reducible repeat (first | refine zE ?_ _ | refine zI ?_ | refine zF ?_ _)); refine zU ?_ NB536_554.out _; (with_reducible repeat (first | refine zE ?_ _ | refine zI ?_ | refine zF ?_ _)); refine zU ?_ NB536_554.out _; (with_reducible repeat (first | refine zE ?_ _ | refine zI ?_ | refine zF ?_ _)); exact BK536.out) hb); have n3_ := zC.mk (zK (g := gb554) (o := .cells #[.int .i64 t547, .int .i64 t548, .int .i64 t549, .int .i64 t550, .slice Ao31 t551.length co31] 32 (0, 0)) (by (with_reducible repeat (first | refine zE ?_ _ | refine zI ?_ | refine zF ?_ _)); refine zS (cs := #[.int .i64 t547, .int .i64 t548, .int .i64 t549, .int .i64 t550, .slice none 0 0]) ?_ 4 _ rfl; (with_reducible repeat (first | refine zE ?_ _ | refine zI ?_ | refine zF ?_ _)); refine zS (cs := #[.int .i64 t547, .int .i64 t548, .int .i64 t549, .int .i64 0, .slice none 0 0]) ?_ 3 _ rfl; (with_reducible repeat (first | refine zE ?_ _ | refine zI ?_ | refine zF ?_ _)); refine zS (cs := #[.int .i64 t547, .int .i64 t548, .int .i64 0, .int .i64 0, .slice none 0 0]) ?_ 2 _ rfl; (with_reducible repeat (first | refine zE ?_ _ | refine zI ?_ | refine zF ?_ _)); refine zS (cs := #[.int .i64 t547, .int .i64 0, .int .i64 0, .int .i64 0, .slice none 0 0]) ?_ 1 _ rfl; (with_reducible repeat (first | refine zE ?_ _ | refine zI ?_ | refine zF ?_ _)); refine zS (cs := #[.int .i64 0, .int .i64 0, .int .i64 0, .int .i64 0, .slice none 0 0]) ?_ 0 _ rfl; (with_reducible repeat (first | refine zE ?_ _ | refine zI ?_ | refine zF ?_ _)); exact BK554.out) hb); have n4_ := zC.mk (zL (by repeat (first | (with_reducible first | exact HB.out | apply zG | apply zA | apply zD | refine zH ?_ GE536.out | refine zH ?_ GE554.out) | exact HB.out)) hb); clear HO544; clear HO553; clear BK536; clear BK554; clear HB; have HO544 := n0_; have HO553 := n1_; have BK536 := n2_; have BK554 := n3_; have HB := n4_; clear n0_ n1_ n2_ n3_ n4_; (try clear hb)))
     have n0_ := zC.mk (Kd.R_drew HO544.out)
     have n1_ := zC.mk (Kd.R_drew HO553.out)
     have n2_ := zC.mk (zI BK536.out)
     have n3_ := zC.mk (zI BK554.out)
     have n4_ := zC.mk (zD HB.out)
     clear HO544
     clear HO553
     clear BK536
     clear BK554
     clear HB
     have HO544 := n0_
     have HO553 := n1_
     have BK536 := n2_
     have BK554 := n3_
     have HB := n4_
     clear n0_ n1_ n2_ n3_ n4_
     refine start_ (n := 5) (S := fun w' => w'.cell? ⟨gb554, 0, none⟩ = some (.int .i64 t547) ∧ w'.cell? ⟨gb554, 1, none⟩ = some (.int .i64 t548) ∧ w'.cell? ⟨gb554, 2, none⟩ = some (.int .i64 t549) ∧ w'.cell? ⟨gb554, 3, none⟩ = some (.int .i64 t550) ∧ w'.cell? ⟨gb554, 4, none⟩ = some (.slice Ao31 t551.length co31) ∧ w'.cell? ⟨gb536, 0, none⟩ = some (.int .i64 a0_0) ∧ w'.cell? ⟨gb536, 1, none⟩ = some (.int .i64 a0_1) ∧ w'.cell? ⟨gb536, 2, none⟩ = some (.int .i64 a0_2) ∧ w'.cell? ⟨gb536, 3, none⟩ = some (.int .i64 a0_3) ∧ w'.cell? ⟨gb536, 4, none⟩ = some (.slice A0_4 l0_4.length c0_4)) (ds := []) #[false, false, false, false, false] (by kernel_rfl) rfl rfl ⟨zB BK554.out 0, zB BK554.out 1, zB BK554.out 2, zB BK554.out 3, zB BK554.out 4, zB BK536.out 0, zB BK536.out 1, zB BK536.out 2, zB BK536.out 3, zB BK536.out 4⟩ (fun hHeld => ?_)
     generalize w32.drew = w33 at HO544 HO553 BK536 BK554 HB hHeld ⊢
     refine yC (i := 0) (N := some 47) (v := ?_) (a' := ?_) #[true, false, false, false, false] rfl rfl (by kernel_rfl) (fun _ _ _ h => h) (Or.inl ⟨by rfl, ?_⟩) hHeld ?_ ?_
     rotate_left
     ·
      rintro w' ⟨s0, s1, s2, s3, s4, s5, s6, s7, s8, s9⟩
      go_simp
      with_reducible rfl
     rotate_left
     ·
      go_simp
      rfl
     refine yC (i := 1) (N := some 48) (v := ?_) (a' := ?_) #[true, true, false, false, false] rfl rfl (by kernel_rfl) (fun _ _ _ h => h) (Or.inl ⟨by rfl, ?_⟩) hHeld ?_ ?_
     rotate_left
     ·
      rintro w' ⟨s0, s1, s2, s3, s4, s5, s6, s7, s8, s9⟩
      go_simp
      with_reducible rfl
     rotate_left
     ·
      go_simp
      rfl
     refine one_ (i := 2) (N := some 49) #[true, true, true, false, false] rfl rfl (by kernel_rfl) (by decide) (fun K hK => ?_)
     refine yD Try.func14 (by kernel_rfl) rfl #[.agg #[.int .i64 a0_0, .int .i64 a0_1, .int .i64 a0_2, .int .i64 a0_3, .slice A0_4 l0_4.length c0_4]] (by rfl) rfl rfl (by (try simp only [List.map_toArray, List.map_cons, List.map_nil]); first | done | rfl) ?_
     with_reducible refine (xF.calls k a0_0 a0_1 a0_2 a0_3 _ _ l0_4 t557 t558 t559 t560 t561 _ ?side1 ?side2 A16.out).mono ?_
     (case side1 => repeat (first | exact (Kd.C_below HR0_4.out HB.out) | (with_reducible refine Kd.C_alloc ?_ _) | (with_reducible refine Kd.C_drewN ?_ _) | (with_reducible refine Kd.C_drew ?_)))
     (case side2 => exact HC0_4.out)
     rintro e w34 ⟨v562, rfl, ho0, hb⟩
     refine ⟨_, rfl, ?_⟩
     have n0_ := zC.mk (Kd.R_elder' (by (with_reducible repeat (first | apply Kd.R_alloc | apply Kd.R_drewN | apply Kd.R_drew)); exact HO544.out) (Kd.R_base ho0) hb)
     have n1_ := zC.mk (Kd.R_elder' (by (with_reducible repeat (first | apply Kd.R_alloc | apply Kd.R_drewN | apply Kd.R_drew)); exact HO553.out) (Kd.R_base ho0) hb)
     have n2_ := zC.mk (Kd.R_lower (Kd.R_new' (Kd.R_new' ho0 (Kd.R_lt (by (with_reducible repeat (first | apply Kd.R_alloc | apply Kd.R_drewN | apply Kd.R_drew)); exact HO544.out))) (Kd.R_lt (by (with_reducible repeat (first | apply Kd.R_alloc | apply Kd.R_drewN | apply Kd.R_drew)); exact HO553.out))) (zM (by repeat (first | (with_reducible first | exact HB.out | apply zG | apply zA | apply zD | refine zH ?_ GE536.out | refine zH ?_ GE554.out) | exact HB.out))))
     have n3_ := zC.mk (zK (g := gb536) (o := .cells #[.int .i64 a0_0, .int .i64 a0_1, .int .i64 a0_2, .int .i64 a0_3, .slice A0_4 l0_4.length c0_4] 26 (0, 0)) (by (with_reducible repeat (first | refine zE ?_ _ | refine zI ?_ | refine zF ?_ _)); exact BK536.out) hb)
     have n4_ := zC.mk (zK (g := gb554) (o := .cells #[.int .i64 t547, .int .i64 t548, .int .i64 t549, .int .i64 t550, .slice Ao31 t551.length co31] 32 (0, 0)) (by (with_reducible repeat (first | refine zE ?_ _ | refine zI ?_ | refine zF ?_ _)); exact BK554.out) hb)
     have n5_ := zC.mk (zL (by repeat (first | (with_reducible first | exact HB.out | apply zG | apply zA | apply zD | refine zH ?_ GE536.out | refine zH ?_ GE554.out) | exact HB.out)) hb)
     clear HO544
     clear HO553
     clear BK536
     clear BK554
     clear HB
     have HO544 := n0_
     have HO553 := n1_
     have HO563 := n2_
     have BK536 := n3_
     have BK554 := n4_
     have HB := n5_
     clear n0_ n1_ n2_ n3_ n4_ n5_
     (try clear hb)
     (try clear ho0)
     obtain ⟨Ao35, co35, eo35⟩ := Kd.R_slice HO563.out
     (first | subst eo35 | (injection eo35 with f1_ f2_ f3_; have f4_ := f1_.symm; have f5_ := f3_.symm; clear f1_ f2_ f3_; subst f4_; subst f5_))
     refine hK.out _ _ ⟨zB BK554.out 0, zB BK554.out 1, zB BK554.out 2, zB BK554.out 3, zB BK554.out 4, zB BK536.out 0, zB BK536.out 1, zB BK536.out 2, zB BK536.out 3, zB BK536.out 4⟩ (fun hHeld => ?_)
     clear hK K
     refine yA (a' := ?_) ?_ ?_
     rotate_left
     ·
      show Act.put _ (some 49) _ = _
      go_simp
      rfl
     refine one_ (i := 3) (N := some 50) #[true, true, true, true, false] rfl rfl (by kernel_rfl) (by decide) (fun K hK => ?_)
     refine yD Try.func16 (by kernel_rfl) rfl #[.agg #[.int .i64 t547, .int .i64 t548, .int .i64 t549, .int .i64 t550, .slice Ao31 t551.length co31], .agg #[.int .i64 t557, .int .i64 t558, .int .i64 t559, .int .i64 t560, .slice Ao35 t561.length co35]] (by rfl) rfl rfl (by (try simp only [List.map_toArray, List.map_cons, List.map_nil]); first | done | rfl) ?_
     with_reducible refine (xK.calls k t547 t548 t549 t550 _ _ t551 t557 t558 t559 t560 _ _ t561 true _ ?side1 ?side2 ?side3 ?side4 A17.out).mono ?_
     (case side1 => repeat (first | exact (Kd.R_reads' HO553.out).2.2 | (with_reducible refine Kd.C_alloc ?_ _) | (with_reducible refine Kd.C_drewN ?_ _) | (with_reducible refine Kd.C_drew ?_)))
     (case side2 => exact (Kd.R_reads' HO553.out).2.1)
     (case side3 => repeat (first | exact (Kd.R_reads' HO563.out).2.2 | (with_reducible refine Kd.C_alloc ?_ _) | (with_reducible refine Kd.C_drewN ?_ _) | (with_reducible refine Kd.C_drew ?_)))
     (case side4 => exact (Kd.R_reads' HO563.out).2.1)
     rintro e w36 ⟨rfl, hb⟩
     refine ⟨_, rfl, ?_⟩
     have n0_ := zC.mk (Kd.R_below (by (with_reducible repeat (first | apply Kd.R_alloc | apply Kd.R_drewN | apply Kd.R_drew)); exact HO544.out) hb)
     have n1_ := zC.mk (Kd.R_below (by (with_reducible repeat (first | apply Kd.R_alloc | apply Kd.R_drewN | apply Kd.R_drew)); exact HO553.out) hb)
     have n2_ := zC.mk (Kd.R_below (by (with_reducible repeat (first | apply Kd.R_alloc | apply Kd.R_drewN | apply Kd.R_drew)); exact HO563.out) hb)
     have n3_ := zC.mk (zK (g := gb536) (o := .cells #[.int .i64 a0_0, .int .i64 a0_1, .int .i64 a0_2, .int .i64 a0_3, .slice A0_4 l0_4.length c0_4] 26 (0, 0)) (by (with_reducible repeat (first | refine zE ?_ _ | refine zI ?_ | refine zF ?_ _)); exact BK536.out) hb)
     have n4_ := zC.mk (zK (g := gb554) (o := .cells #[.int .i64 t547, .int .i64 t548, .int .i64 t549, .int .i64 t550, .slice Ao31 t551.length co31] 32 (0, 0)) (by (with_reducible repeat (first | refine zE ?_ _ | refine zI ?_ | refine zF ?_ _)); exact BK554.out) hb)
     have n5_ := zC.mk (zL (by repeat (first | (with_reducible first | exact HB.out | apply zG | apply zA | apply zD | refine zH ?_ GE536.out | refine zH ?_ GE554.out) | exact HB.out)) hb)
     clear HO544
     clear HO553
     clear HO563
     clear BK536
     clear BK554
     clear HB
     have HO544 := n0_
     have HO553 := n1_
     have HO563 := n2_
     have BK536 := n3_
     have BK554 := n4_
     have HB := n5_
     clear n0_ n1_ n2_ n3_ n4_ n5_
     (try clear hb)
     refine hK.out _ _ ⟨zB BK554.out 0, zB BK554.out 1, zB BK554.out 2, zB BK554.out 3, zB BK554.out 4, zB BK536.out 0, zB BK536.out 1, zB BK536.out 2, zB BK536.out 3, zB BK536.out 4⟩ (fun hHeld => ?_)
     clear hK K
     refine yA (a' := ?_) ?_ ?_
     rotate_left
     ·
      show Act.put _ (some 50) _ = _
      go_simp
      rfl
     refine zR (i := 4) (N := some 51) (v := ?_) (a' := ?_) #[true, true, true, true, true] rfl rfl (by kernel_rfl) (fun _ _ _ h => h) (Or.inl ⟨by rfl, ?_⟩) ?_ ?_
     rotate_left
     ·
      intro w'
      go_simp
      with_reducible rfl
     rotate_left
     ·
      go_simp
      rfl
     refine done_ (by kernel_rfl) ?_
     try go_wp2
     go_ret
     exact ⟨by first | rfl | (simp [*, errW_none, errW_some] <;> rfl), by repeat (first | (with_reducible first | exact HB.out | apply zG | apply zA | apply zD | refine zH ?_ GE536.out | refine zH ?_ GE554.out) | exact HB.out)⟩
    ·
     replace c18 := Bool.eq_false_iff.mpr c18
     subst c18
     have H1 : (none) = some r := by rw [if_neg (show ¬ (false = true) by decide)] at H; exact H
     clear H
     have H := H1
     clear H1
     exact absurd H (by simp)
   ·
    rw [if_neg c15] at H
    exact absurd H (by simp)
  ·
   rw [if_neg c14] at H
   exact absurd H (by simp)
end Go.Proofs.Ytioendlbpendpaa.X
