/- Part of the proof of the law FnExactPanelsFrom: each function of the code computes what its plain function says. No condition of its own. -/
import Derived.Test.YtomgliinndfliaaCFnExactPanelsFromW3
set_option maxHeartbeats 8000000
set_option maxRecDepth 100000
namespace Go.Proofs.Ytomgliinndfliaa.X
open Go.RowKit Go.Proofs.YtomgliinndfliaaW.PrintWords Go.Proofs.YtomgliinndfliaaW.PrintLast Go.Proofs.YtomgliinndfliaaW.PrintMore
attribute [local go_sem] max2_int min2_int max_two min_two max_three min_three max_four min_four   -- for this text's walks alone
set_option linter.unusedVariables false
set_option linter.unusedSimpArgs false
theorem yG.calls (k : Nat) (a0_0 : Int) (a0_1 : Int) (a0_2 : Int) (a0_3 : Int) (A0_4 : Option Addr) (c0_4 : Nat) (l0_4 : List Int) (r1 : Int) (r2 : Int) (r3 : Int) (w : World) (hr0_4 : Kd.C (Kd.int .i64) w A0_4 l0_4.length l0_4) (hc0_4 : l0_4.length ≤ c0_4) (h : yG.f k a0_0 a0_1 a0_2 a0_3 l0_4 = some (r1, r2, r3)) :
  Calls Try.prog 149 #[.agg #[.int .i64 a0_0, .int .i64 a0_1, .int .i64 a0_2, .int .i64 a0_3, .slice A0_4 l0_4.length c0_4]] w fun e w' => e = .returned (.agg #[.int .i64 r1, .int .i64 r2, .int .i64 r3]) ∧ Below w.heap.size w w' := by
 have hu30 := Try.underlying30
 have hu28 := Try.underlying28
 have hu38 := Try.underlying38
 have hu90 := Try.underlying90
 have HR0_4 := zC.mk hr0_4
 have HC0_4 := zC.mk hc0_4
 clear hr0_4 hc0_4
 have HB := zC.mk (Below.refl w.heap.size w)
 have H : ((xP.f a0_1 a0_2 a0_3).bind fun bt1436 => ((yF.f k a0_1 a0_2 a0_3).bind fun t1445 => (yG.l0 k (([(⟨bt1436.1, bt1436.2.1⟩ : S38), (⟨bt1436.2.2.1, bt1436.2.2.2⟩ : S38)] : List (S38))) t1445 (t1445.length : Int) 0 a0_0 a0_1 a0_2 a0_3 l0_4))) = some (r1, r2, r3) := h
 clear h
 replace H := Option.bind_eq_some_iff.mp H
 obtain ⟨⟨t1436, t1437, t1438, t1439⟩, A20, H⟩ := H
 replace H : ((yF.f k a0_1 a0_2 a0_3).bind fun t1445 => (yG.l0 k (([(⟨t1436, t1437⟩ : S38), (⟨t1438, t1439⟩ : S38)] : List (S38))) t1445 (t1445.length : Int) 0 a0_0 a0_1 a0_2 a0_3 l0_4)) = some (r1, r2, r3) := H
 have A2 := zC.mk A20
 clear A20
 obtain ⟨y1442, hy1442⟩ : ∃ y_ : List (S38), y_ = (([(⟨t1436, t1437⟩ : S38), (⟨t1438, t1439⟩ : S38)] : List (S38))) := ⟨_, rfl⟩
 replace H : ((yF.f k a0_1 a0_2 a0_3).bind fun t1445 => (yG.l0 k y1442 t1445 (t1445.length : Int) 0 a0_0 a0_1 a0_2 a0_3 l0_4)) = some (r1, r2, r3) := by first | (rw [hy1442]; with_reducible exact H) | (have H2_ := (Option.bind_some _ _).symm.trans H; rw [hy1442]; with_reducible exact H2_) | (have H2_ := (Option.bind_some _ _).symm.trans H; with_reducible exact H2_) | with_reducible exact H | (rw [hy1442]; exact H) | exact H
 have Ny1442 := zC.mk hy1442
 clear hy1442
 replace H := Option.bind_eq_some_iff.mp H
 obtain ⟨t1445, A30, H⟩ := H
 replace H : (yG.l0 k y1442 t1445 (t1445.length : Int) 0 a0_0 a0_1 a0_2 a0_3 l0_4) = some (r1, r2, r3) := H
 have A3 := zC.mk A30
 clear A30
 have H' := zC.mk H
 clear H
 go_enter Try.func149, Try.ntmps149
 go_wp2_with (first | ((with_reducible refine zP (N := 1) rfl ?_); refine zO ?hg (N := 1) ?hd (cs := #[.int .i64 a0_0, .int .i64 a0_1, .int .i64 a0_2, .int .i64 a0_3, .slice A0_4 l0_4.length c0_4]) (t := 30) ?hr ?_; (case hd => rfl); (case hg => rfl); (case hr => first | (go_simp; done) | (go_simp; rfl)); intro gb1434 hg w4 hbox hb; have n0_ := zC.mk (zL (by repeat (first | (with_reducible first | exact HB.out | apply zG | apply zA | apply zF) | exact HB.out)) hb); have n1_ := zC.mk (hbox); have n2_ := zC.mk ((by rw [hg]; exact (zM (by repeat (first | (with_reducible first | exact HB.out | apply zG | apply zA | apply zF) | exact HB.out))) : w.heap.size ≤ gb1434)); have n3_ := n2_; clear HB; have HB := n0_; have BK1434 := n1_; have GW1434 := n2_; have GE1434 := n3_; clear n0_ n1_ n2_ n3_; clear hb hbox hg) | ((with_reducible refine zP (N := 2) rfl ?_); refine zO ?hg (N := 2) ?hd (cs := #[.int .i64 0, .int .i64 0, .int .i64 0]) (t := 28) ?hr ?_; (case hd => rfl); (case hg => rfl); (case hr => first | (go_simp; done) | (go_simp; rfl)); intro gb1435 hg w5 hbox hb; have n0_ := zC.mk (zK (g := gb1434) (o := .cells #[.int .i64 a0_0, .int .i64 a0_1, .int .i64 a0_2, .int .i64 a0_3, .slice A0_4 l0_4.length c0_4] 30 (0, 0)) (by (with_reducible repeat (first | refine zE ?_ _ | refine zI ?_ | refine zD ?_ _)); exact BK1434.out) hb); have n1_ := zC.mk (zL (by repeat (first | (with_reducible first | exact HB.out | apply zG | apply zA | apply zF | refine zH ?_ GE1434.out) | exact HB.out)) hb); have n2_ := zC.mk (hbox); have n3_ := zC.mk ((by rw [hg]; exact (zM (by repeat (first | (with_reducible first | exact HB.out | apply zG | apply zA | apply zF | refine zH ?_ GE1434.out) | exact HB.out))) : w.heap.size ≤ gb1435)); have n4_ := n3_; have n5_ := zC.mk ((by rw [hg]; exact Nat.ne_of_lt (zX (by (with_reducible repeat (first | refine zE ?_ _ | refine zI ?_ | refine zD ?_ _)); exact BK1434.out)) : gb1434 ≠ gb1435)); have n6_ := zC.mk n5_.out.symm; clear BK1434; clear HB; have BK1434 := n0_; have HB := n1_; have BK1435 := n2_; have GW1435 := n3_; have GE1435 := n4_; have NB1434_1435 := n5_; have NB1435_1434 := n6_; clear n0_ n1_ n2_ n3_ n4_ n5_ n6_; clear hb hbox hg; have hnb6 := NB1434_1435.out; have hnc6 := NB1435_1434.out; have hcz7_0 : w5.cell? ⟨gb1434, 0, none⟩ = some (.int .i64 a0_0) := zB BK1434.out 0; have hcz7_1 : w5.cell? ⟨gb1434, 1, none⟩ = some (.int .i64 a0_1) := zB BK1434.out 1; have hcz7_2 : w5.cell? ⟨gb1434, 2, none⟩ = some (.int .i64 a0_2) := zB BK1434.out 2; have hcz7_3 : w5.cell? ⟨gb1434, 3, none⟩ = some (.int .i64 a0_3) := zB BK1434.out 3; have hcz7_4 : w5.cell? ⟨gb1434, 4, none⟩ = some (.slice A0_4 l0_4.length c0_4) := zB BK1434.out 4; have hfz7_0 := zJ BK1434.out 0; have hfz7_1 := zJ BK1434.out 1; have hfz7_2 := zJ BK1434.out 2; have hfz7_3 := zJ BK1434.out 3; have hfz7_4 := zJ BK1434.out 4) | ((with_reducible refine zS (f := 129) rfl ?_); refine zZ (some 11) rfl rfl Try.func129 (by kernel_rfl) rfl #[.agg #[.int .i64 a0_1, .int .i64 a0_2, .int .i64 a0_3]] rfl (by (try simp only [List.map_toArray, List.map_cons, List.map_nil]); first | done | rfl) ?_; (with_reducible refine (xP.calls a0_1 a0_2 a0_3 t1436 t1437 t1438 t1439 _ A2.out).mono ?_); rintro e w8 ⟨rfl, hb⟩; refine ⟨_, rfl, ?_⟩; have n0_ := zC.mk (zK (g := gb1434) (o := .cells #[.int .i64 a0_0, .int .i64 a0_1, .int .i64 a0_2, .int .i64 a0_3, .slice A0_4 l0_4.length c0_4] 30 (0, 0)) (by (with_reducible repeat (first | refine zE ?_ _ | refine zI ?_ | refine zD ?_ _)); exact BK1434.out) hb); have n1_ := zC.mk (zK (g := gb1435) (o := .cells #[.int .i64 0, .int .i64 0, .int .i64 0] 28 (0, 0)) (by (with_reducible repeat (first | refine zE ?_ _ | refine zI ?_ | refine zD ?_ _)); exact BK1435.out) hb); have n2_ := zC.mk (zL (by repeat (first | (with_reducible first | exact HB.out | apply zG | apply zA | apply zF | refine zH ?_ GE1434.out | refine zH ?_ GE1435.out) | exact HB.out)) hb); clear BK1434; clear BK1435; clear HB; have BK1434 := n0_; have BK1435 := n1_; have HB := n2_; clear n0_ n1_ n2_; (try clear hb)) | ((with_reducible refine zP (N := 3) rfl ?_); refine zO ?hg (N := 3) ?hd (cs := #[.int .i64 0, .int .i64 0]) (t := 38) ?hr ?_; (case hd => rfl); (case hg => rfl); (case hr => first | (go_simp; done) | (go_simp; rfl)); intro gb1440 hg w9 hbox hb; have n0_ := zC.mk (zK (g := gb1434) (o := .cells #[.int .i64 a0_0, .int .i64 a0_1, .int .i64 a0_2, .int .i64 a0_3, .slice A0_4 l0_4.length c0_4] 30 (0, 0)) (by (with_reducible repeat (first | refine zE ?_ _ | refine zI ?_ | refine zD ?_ _)); exact BK1434.out) hb); have n1_ := zC.mk (zK (g := gb1435) (o := .cells #[.int .i64 0, .int .i64 0, .int .i64 0] 28 (0, 0)) (by (with_reducible repeat (first | refine zE ?_ _ | refine zI ?_ | refine zD ?_ _)); exact BK1435.out) hb); have n2_ := zC.mk (zL (by repeat (first | (with_reducible first | exact HB.out | apply zG | apply zA | apply zF | refine zH ?_ GE1434.out | refine zH ?_ GE1435.out) | exact HB.out)) hb); have n3_ := zC.mk (hbox); have n4_ := zC.mk ((by rw [hg]; exact (zM (by repeat (first | (with_reducible first | exact HB.out | apply zG | apply zA | apply zF | refine zH ?_ GE1434.out | refine zH ?_ GE1435.out) | exact HB.out))) : w.heap.size ≤ gb1440)); have n5_ := n4_; have n6_ := zC.mk ((by rw [hg]; exact Nat.ne_of_lt (zX (by (with_reducible repeat (first | refine zE ?_ _ | refine zI ?_ | refine zD ?_ _)); exact BK1434.out)) : gb1434 ≠ gb1440)); have n7_ := zC.mk n6_.out.symm; have n8_ := zC.mk ((by rw [hg]; exact Nat.ne_of_lt (zX (by (with_reducible repeat (first | refine zE ?_ _ | refine zI ?_ | refine zD ?_ _)); exact BK1435.out)) : gb1435 ≠ gb1440)); have n9_ := zC.mk n8_.out.symm; clear BK1434; clear BK1435; clear HB; have BK1434 := n0_; have BK1435 := n1_; have HB := n2_; have BK1440 := n3_; have GW1440 := n4_; have GE1440 := n5_; have NB1434_1440 := n6_; have NB1440_1434 := n7_; have NB1435_1440 := n8_; have NB1440_1435 := n9_; clear n0_ n1_ n2_ n3_ n4_ n5_ n6_ n7_ n8_ n9_; clear hb hbox hg) | ((with_reducible refine zP (N := 4) rfl ?_); refine zO ?hg (N := 4) ?hd (cs := #[.int .i64 0, .int .i64 0]) (t := 38) ?hr ?_; (case hd => rfl); (case hg => rfl); (case hr => first | (go_simp; done) | (go_simp; rfl)); intro gb1441 hg w10 hbox hb; have n0_ := zC.mk (zK (g := gb1434) (o := .cells #[.int .i64 a0_0, .int .i64 a0_1, .int .i64 a0_2, .int .i64 a0_3, .slice A0_4 l0_4.length c0_4] 30 (0, 0)) (by (with_reducible repeat (first | refine zE ?_ _ | refine zI ?_ | refine zD ?_ _)); exact BK1434.out) hb); have n1_ := zC.mk (zK (g := gb1435) (o := .cells #[.int .i64 0, .int .i64 0, .int .i64 0] 28 (0, 0)) (by (with_reducible repeat (first | refine zE ?_ _ | refine zI ?_ | refine zD ?_ _)); exact BK1435.out) hb); have n2_ := zC.mk (zK (g := gb1440) (o := .cells #[.int .i64 0, .int .i64 0] 38 (0, 0)) (by (with_reducible repeat (first | refine zE ?_ _ | refine zI ?_ | refine zD ?_ _)); exact BK1440.out) hb); have n3_ := zC.mk (zL (by repeat (first | (with_reducible first | exact HB.out | apply zG | apply zA | apply zF | refine zH ?_ GE1434.out | refine zH ?_ GE1435.out | refine zH ?_ GE1440.out) | exact HB.out)) hb); have n4_ := zC.mk (hbox); have n5_ := zC.mk ((by rw [hg]; exact (zM (by repeat (first | (with_reducible first | exact HB.out | apply zG | apply zA | apply zF | refine zH ?_ GE1434.out | refine zH ?_ GE1435.out | refine zH ?_ GE1440.out) | exact HB.out))) : w.heap.size ≤ gb1441)); have n6_ := n5_; have n7_ := zC.mk ((by rw [hg]; exact Nat.ne_of_lt (zX (by (with_reducible repeat (first | refine zE ?_ _ | refine zI ?_ | refine zD ?_ _)); exact BK1434.out)) : gb1434 ≠ gb1441)); have n8_ := zC.mk n7_.out.symm; have n9_ := zC.mk ((by rw [hg]; exact Nat.ne_of_lt (zX (by (with_reducible repeat (first | refine zE ?_ _ | refine zI ?_ | refine zD ?_ _)); exact BK1435.out)) : gb1435 ≠ gb1441)); have n10_ := zC.mk n9_.out.symm; have n11_ := zC.mk ((by rw [hg]; exact Nat.ne_of_lt (zX (by (with_reducible repeat (first | refine zE ?_ _ | refine zI ?_ | refine zD ?_ _)); exact BK1440.out)) : gb1440 ≠ gb1441)); have n12_ := zC.mk n11_.out.symm; clear BK1434; clear BK1435; clear BK1440; clear HB; have BK1434 := n0_; have BK1435 := n1_; have BK1440 := n2_; have HB := n3_; have BK1441 := n4_; have GW1441 := n5_; have GE1441 := n6_; have NB1434_1441 := n7_; have NB1441_1434 := n8_; have NB1435_1441 := n9_; have NB1441_1435 := n10_; have NB1440_1441 := n11_; have NB1441_1440 := n12_; clear n0_ n1_ n2_ n3_ n4_ n5_ n6_ n7_ n8_ n9_ n10_ n11_ n12_; clear hb hbox hg; have hnb11 := NB1440_1434.out; have hnc11 := NB1434_1440.out; have hnb12 := NB1440_1435.out; have hnc12 := NB1435_1440.out; have hnb13 := NB1440_1441.out; have hnc13 := NB1441_1440.out; have hcz14_0 : w10.cell? ⟨gb1440, 0, none⟩ = some (.int .i64 0) := zB BK1440.out 0; have hcz14_1 : w10.cell? ⟨gb1440, 1, none⟩ = some (.int .i64 0) := zB BK1440.out 1; have hfz14_0 := zJ BK1440.out 0; have hfz14_1 := zJ BK1440.out 1; have hnb15 := NB1441_1434.out; have hnc15 := NB1434_1441.out; have hnb16 := NB1441_1435.out; have hnc16 := NB1435_1441.out; have hcz17_0 : w10.cell? ⟨gb1441, 0, none⟩ = some (.int .i64 0) := zB BK1441.out 0; have hcz17_1 : w10.cell? ⟨gb1441, 1, none⟩ = some (.int .i64 0) := zB BK1441.out 1; have hfz17_0 := zJ BK1441.out 0; have hfz17_1 := zJ BK1441.out 1) | ((with_reducible refine zP (N := 16) rfl ?_); refine Kd.R_lit k38 _ 38 ?hg (N := 16) ?hd (xs := ([(⟨t1436, t1437⟩ : S38), (⟨t1438, t1439⟩ : S38)] : List (S38))) (inner := [.int .i64 t1436, .int .i64 t1437, .int .i64 t1438, .int .i64 t1439]) (ok := fun _ => True) (okp := fun _ => True) ?hr ?hp (fun _ hk => hk) trivial (Below.refl _ _) (Nat.le_refl _) (by simp) ?_; (case hd => rfl); (case hg => rfl); (case hr => first | (go_simp; done) | (go_simp; rfl)); (case hp => exact (Reps.c2 (show Kd.M k38 _ _ _ (⟨t1436, t1437⟩ : S38) [.int .i64 t1436, .int .i64 t1437] from (k38_mkM _ _ _ (⟨t1436, t1437⟩ : S38) )) (Reps.c2 (show Kd.M k38 _ _ _ (⟨t1438, t1439⟩ : S38) [.int .i64 t1438, .int .i64 t1439] from (k38_mkM _ _ _ (⟨t1438, t1439⟩ : S38) )) (Reps.none _ _)))); intro v1443 w18 ho19 hb hg_ hnew_; clear hg_ hnew_; (first | rw [← Ny1442.out] at ho19 | (simp only [Int.reduceToNat] at ho19; rw [← Ny1442.out] at ho19)); have n0_ := zC.mk (Kd.R_lower (Kd.R_newB (Kd.R_newB ho19 (g := gb1440) (o := .cells #[.int .i64 t1436, .int .i64 t1437] 38 (0, 0)) (by (with_reducible repeat (first | refine zE ?_ _ | refine zI ?_ | refine zD ?_ _)); refine zW ?_ NB1440_1441.out _; (with_reducible repeat (first | refine zE ?_ _ | refine zI ?_ | refine zD ?_ _)); refine zW ?_ NB1440_1441.out _; (with_reducible repeat (first | refine zE ?_ _ | refine zI ?_ | refine zD ?_ _)); refine zU (cs := #[.int .i64 t1436, .int .i64 0]) ?_ 1 _ rfl; (with_reducible repeat (first | refine zE ?_ _ | refine zI ?_ | refine zD ?_ _)); refine zU (cs := #[.int .i64 0, .int .i64 0]) ?_ 0 _ rfl; (with_reducible repeat (first | refine zE ?_ _ | refine zI ?_ | refine zD ?_ _)); exact BK1440.out)) (g := gb1441) (o := .cells #[.int .i64 t1438, .int .i64 t1439] 38 (0, 0)) (by (with_reducible repeat (first | refine zE ?_ _ | refine zI ?_ | refine zD ?_ _)); refine zU (cs := #[.int .i64 t1438, .int .i64 0]) ?_ 1 _ rfl; (with_reducible repeat (first | refine zE ?_ _ | refine zI ?_ | refine zD ?_ _)); refine zU (cs := #[.int .i64 0, .int .i64 0]) ?_ 0 _ rfl; (with_reducible repeat (first | refine zE ?_ _ | refine zI ?_ | refine zD ?_ _)); refine zW ?_ NB1441_1440.out _; (with_reducible repeat (first | refine zE ?_ _ | refine zI ?_ | refine zD ?_ _)); refine zW ?_ NB1441_1440.out _; (with_reducible repeat (first | refine zE ?_ _ | refine zI ?_ | refine zD ?_ _)); exact BK1441.out)) (zM (by repeat (first | (with_reducible first | exact HB.out | apply zG | apply zA | apply zF | refine zH ?_ GE1434.out | refine zH ?_ GE1435.out | refine zH ?_ GE1440.out | refine zH ?_ GE1441.out) | exact HB.out)))); have n1_ := zC.mk (zK (g := gb1434) (o := .cells #[.int .i64 a0_0, .int .i64 a0_1, .int .i64 a0_2, .int .i64 a0_3, .slice A0_4 l0_4.length c0_4] 30 (0, 0)) (by (with_reducible repeat (first | refine zE ?_ _ | refine zI ?_ | refine zD ?_ _)); refine zW ?_ NB1434_1441.out _; (with_reducible repeat (first | refine zE ?_ _ | refine zI ?_ | refine zD ?_ _)); refine zW ?_ NB1434_1441.out _; (with_reducible repeat (first | refine zE ?_ _ | refine zI ?_ | refine zD ?_ _)); refine zW ?_ NB1434_1440.out _; (with_reducible repeat (first | refine zE ?_ _ | refine zI ?_ | refine zD ?_ _)); refine zW ?_ NB1434_1440.out _; (with_reducible repeat (first | refine zE ?_ _ | refine zI ?_ | refine zD ?_ _)); exact BK1434.out) hb); have n2_ := zC.mk (zK (g := gb1435) (o := .cells #[.int .i64 0, .int .i64 0, .int .i64 0] 28 (0, 0)) (by (with_reducible repeat (first | refine zE ?_ _ | refine zI ?_ | refine zD ?_ _)); refine zW ?_ NB1435_1441.out _; (with_reducible repeat (first | refine zE ?_ _ | refine zI ?_ | refine zD ?_ _)); refine zW ?_ NB1435_1441.out _; (with_reducible repeat (first | refine zE ?_ _ | refine zI ?_ | refine zD ?_ _)); refine zW ?_ NB1435_1440.out _; (with_reducible repeat (first | refine zE ?_ _ | refine zI ?_ | refine zD ?_ _)); refine zW ?_ NB1435_1440.out _; (with_reducible repeat (first | refine zE ?_ _ | refine zI ?_ | refine zD ?_ _)); exact BK1435.out) hb); have n3_ := zC.mk (zK (g := gb1440) (o := .cells #[.int .i64 t1436, .int .i64 t1437] 38 (0, 0)) (by (with_reducible repeat (first | refine zE ?_ _ | refine zI ?_ | refine zD ?_ _)); refine zW ?_ NB1440_1441.out _; (with_reducible repeat (first | refine zE ?_ _ | refine zI ?_ | refine zD ?_ _)); refine zW ?_ NB1440_1441.out _; (with_reducible repeat (first | refine zE ?_ _ | refine zI ?_ | refine zD ?_ _)); refine zU (cs := #[.int .i64 t1436, .int .i64 0]) ?_ 1 _ rfl; (with_reducible repeat (first | refine zE ?_ _ | refine zI ?_ | refine zD ?_ _)); refine zU (cs := #[.int .i64 0, .int .i64 0]) ?_ 0 _ rfl; (with_reducible repeat (first | refine zE ?_ _ | refine zI ?_ | refine zD ?_ _)); exact BK1440.out) hb); have n4_ := zC.mk (zK (g := gb1441) (o := .cells #[.int .i64 t1438, .int .i64 t1439] 38 (0, 0)) (by (with_reducible repeat (first | refine zE ?_ _ | refine zI ?_ | refine zD ?_ _)); refine zU (cs := #[.int .i64 t1438, .int .i64 0]) ?_ 1 _ rfl; (with_reducible repeat (first | refine zE ?_ _ | refine zI ?_ | refine zD ?_ _)); refine zU (cs := #[.int .i64 0, .int .i64 0]) ?_ 0 _ rfl; (with_reducible repeat (first | refine zE ?_ _ | refine zI ?_ | refine zD ?_ _)); refine zW ?_ NB1441_1440.out _; (with_reducible repeat (first | refine zE ?_ _ | refine zI ?_ | refine zD ?_ _)); refine zW ?_ NB1441_1440.out _; (with_reducible repeat (first | refine zE ?_ _ | refine zI ?_ | refine zD ?_ _)); exact BK1441.out) hb); have n5_ := zC.mk (zL (by repeat (first | (with_reducible first | exact HB.out | apply zG | apply zA | apply zF | refine zH ?_ GE1434.out | refine zH ?_ GE1435.out | refine zH ?_ GE1440.out | refine zH ?_ GE1441.out) | exact HB.out)) hb); clear BK1434; clear BK1435; clear BK1440; clear BK1441; clear HB; have HO1444 := n0_; have BK1434 := n1_; have BK1435 := n2_; have BK1440 := n3_; have BK1441 := n4_; have HB := n5_; clear n0_ n1_ n2_ n3_ n4_ n5_; clear hb ho19; have hcz20_0 : w18.cell? ⟨gb1434, 0, none⟩ = some (.int .i64 a0_0) := zB BK1434.out 0; have hcz20_1 : w18.cell? ⟨gb1434, 1, none⟩ = some (.int .i64 a0_1) := zB BK1434.out 1; have hcz20_2 : w18.cell? ⟨gb1434, 2, none⟩ = some (.int .i64 a0_2) := zB BK1434.out 2; have hcz20_3 : w18.cell? ⟨gb1434, 3, none⟩ = some (.int .i64 a0_3) := zB BK1434.out 3; have hcz20_4 : w18.cell? ⟨gb1434, 4, none⟩ = some (.slice A0_4 l0_4.length c0_4) := zB BK1434.out 4; have hfz20_0 := zJ BK1434.out 0; have hfz20_1 := zJ BK1434.out 1; have hfz20_2 := zJ BK1434.out 2; have hfz20_3 := zJ BK1434.out 3; have hfz20_4 := zJ BK1434.out 4) | ((with_reducible refine zS (f := 66) rfl ?_); refine zZ (some 19) rfl rfl Try.func66 (by kernel_rfl) rfl #[.agg #[.int .i64 a0_1, .int .i64 a0_2, .int .i64 a0_3]] rfl (by (try simp only [List.map_toArray, List.map_cons, List.map_nil]); first | done | rfl) ?_; (with_reducible refine (yF.calls k a0_1 a0_2 a0_3 t1445 _ A3.out).mono ?_); rintro e w21 ⟨v1446, rfl, ho0, hb⟩; refine ⟨_, rfl, ?_⟩; have n0_ := zC.mk (Kd.R_elder' (by (with_reducible repeat (first | apply Kd.R_alloc | apply Kd.R_drewN | apply Kd.R_drew)); exact HO1444.out) (Kd.R_base ho0) hb); have n1_ := zC.mk (Kd.R_lower (Kd.R_newB (Kd.R_newB (Kd.R_new' ho0 (Kd.R_lt (by (with_reducible repeat (first | apply Kd.R_alloc | apply Kd.R_drewN | apply Kd.R_drew)); exact HO1444.out))) (g := gb1440) (o := .cells #[.int .i64 t1436, .int .i64 t1437] 38 (0, 0)) (by (with_reducible repeat (first | refine zE ?_ _ | refine zI ?_ | refine zD ?_ _)); exact BK1440.out)) (g := gb1441) (o := .cells #[.int .i64 t1438, .int .i64 t1439] 38 (0, 0)) (by (with_reducible repeat (first | refine zE ?_ _ | refine zI ?_ | refine zD ?_ _)); exact BK1441.out)) (zM (by repeat (first | (with_reducible first | exact HB.out | apply zG | apply zA | apply zF | refine zH ?_ GE1434.out | refine zH ?_ GE1435.out | refine zH ?_ GE1440.out | refine zH ?_ GE1441.out) | exact HB.out)))); have n2_ := zC.mk (zK (g := gb1434) (o := .cells #[.int .i64 a0_0, .int .i64 a0_1, .int .i64 a0_2, .int .i64 a0_3, .slice A0_4 l0_4.length c0_4] 30 (0, 0)) (by (with_reducible repeat (first | refine zE ?_ _ | refine zI ?_ | refine zD ?_ _)); exact BK1434.out) hb); have n3_ := zC.mk (zK (g := gb1435) (o := .cells #[.int .i64 0, .int .i64 0, .int .i64 0] 28 (0, 0)) (by (with_reducible repeat (first | refine zE ?_ _ | refine zI ?_ | refine zD ?_ _)); exact BK1435.out) hb); have n4_ := zC.mk (zK (g := gb1440) (o := .cells #[.int .i64 t1436, .int .i64 t1437] 38 (0, 0)) (by (with_reducible repeat (first | refine zE ?_ _ | refine zI ?_ | refine zD ?_ _)); exact BK1440.out) hb); have n5_ := zC.mk (zK (g := gb1441) (o := .cells #[.int .i64 t1438, .int .i64 t1439] 38 (0, 0)) (by (with_reducible repeat (first | refine zE ?_ _ | refine zI ?_ | refine zD ?_ _)); exact BK1441.out) hb); have n6_ := zC.mk (zL (by repeat (first | (with_reducible first | exact HB.out | apply zG | apply zA | apply zF | refine zH ?_ GE1434.out | refine zH ?_ GE1435.out | refine zH ?_ GE1440.out | refine zH ?_ GE1441.out) | exact HB.out)) hb); clear HO1444; clear BK1434; clear BK1435; clear BK1440; clear BK1441; clear HB; have HO1444 := n0_; have HO1447 := n1_; have BK1434 := n2_; have BK1435 := n3_; have BK1440 := n4_; have BK1441 := n5_; have HB := n6_; clear n0_ n1_ n2_ n3_ n4_ n5_ n6_; (try clear hb); (try clear ho0); obtain ⟨Ao22, co22, eo22⟩ := Kd.R_slice HO1447.out; subst eo22))
 go_loopg [5, 21] k (fun kq v5 v21 w' => ∃ (x5_1 : List (S38)) (x21_1 : Int), v21 = .int .i64 x21_1 ∧ zC (yG.l0 kq x5_1 t1445 (t1445.length : Int) x21_1 a0_0 a0_1 a0_2 a0_3 l0_4 = some (r1, r2, r3)) ∧ zC (kq ≤ k) ∧ zC (Kd.R k38 38 w' w.heap.size (fun k_ => some k_ ≠ ((.slice Ao22 t1445.length co22) : Value).ownBlock ∧ k_ ≠ gb1440 ∧ k_ ≠ gb1441) v5 x5_1) ∧ zC (Kd.R k38 38 w' w.heap.size (fun k_ => some k_ ≠ (v5 : Value).ownBlock ∧ k_ ≠ gb1440 ∧ k_ ≠ gb1441) (.slice Ao22 t1445.length co22) t1445) ∧ zC (w'.heap[gb1434]? = some (.cells #[.int .i64 a0_0, .int .i64 a0_1, .int .i64 a0_2, .int .i64 a0_3, (.slice A0_4 l0_4.length c0_4)] 30 (0, 0))) ∧ zC (w'.heap[gb1435]? = some (.cells #[.int .i64 0, .int .i64 0, .int .i64 0] 28 (0, 0))) ∧ zC (w'.heap[gb1440]? = some (.cells #[.int .i64 t1436, .int .i64 t1437] 38 (0, 0))) ∧ zC (w'.heap[gb1441]? = some (.cells #[.int .i64 t1438, .int .i64 t1439] 38 (0, 0))) ∧ zC (Below w.heap.size w w'))
 case atStart => exact ⟨(y1442), (0), (by first | rfl | (simp; done) | (simp [*]; done)), H', ⟨Nat.le_refl _⟩, ⟨by (with_reducible repeat (first | apply Kd.R_alloc | apply Kd.R_drewN | apply Kd.R_drew)); exact Kd.R_mono HO1444.out (fun _ hk => ⟨hk.2, ⟨hk.1.1.2, hk.1.2⟩⟩)⟩, ⟨by (with_reducible repeat (first | apply Kd.R_alloc | apply Kd.R_drewN | apply Kd.R_drew)); exact Kd.R_mono HO1447.out (fun _ hk => ⟨hk.1.1.2, ⟨hk.1.2, hk.2⟩⟩)⟩, ⟨by (with_reducible repeat (first | refine zE ?_ _ | refine zI ?_ | refine zD ?_ _)); exact BK1434.out⟩, ⟨by (with_reducible repeat (first | refine zE ?_ _ | refine zI ?_ | refine zD ?_ _)); exact BK1435.out⟩, ⟨by (with_reducible repeat (first | refine zE ?_ _ | refine zI ?_ | refine zD ?_ _)); exact BK1440.out⟩, ⟨by (with_reducible repeat (first | refine zE ?_ _ | refine zI ?_ | refine zD ?_ _)); exact BK1441.out⟩, ⟨by repeat (first | (with_reducible first | exact HB.out | apply zG | apply zA | apply zF | refine zH ?_ GE1434.out | refine zH ?_ GE1435.out | refine zH ?_ GE1440.out | refine zH ?_ GE1441.out) | exact HB.out)⟩⟩
 case round =>
  clear H'
  try clear c1
  try clear c2
  try clear p2
  try clear c6
  try clear c11
  try clear c12
  try clear c13
  try clear c14
  try clear c15
  try clear c16
  try clear hcz14_0
  try clear hcz14_1
  try clear hcz17_0
  try clear hcz17_1
  try clear hcz20_0
  try clear hcz20_1
  try clear hcz20_2
  try clear hcz20_3
  try clear hcz20_4
  try clear hcz7_0
  try clear hcz7_1
  try clear hcz7_2
  try clear hcz7_3
  try clear hcz7_4
  try clear hfz14_0
  try clear hfz14_1
  try clear hfz17_0
  try clear hfz17_1
  try clear hfz20_0
  try clear hfz20_1
  try clear hfz20_2
  try clear hfz20_3
  try clear hfz20_4
  try clear hfz7_0
  try clear hfz7_1
  try clear hfz7_2
  try clear hfz7_3
  try clear hfz7_4
  obtain ⟨x5_1, x21_1, rfl, HA, HK1, HO_5, HO_19, BK1434, BK1435, BK1440, BK1441, HB⟩ := hrel
  cases gk with
  | zero => exact absurd HA.out (by simp [yG.l0])
  | succ k1 =>
   have H := HA.out
   clear HA
   simp only [yG.l0] at H
   by_cases c23 : x21_1 < (t1445.length : Int)
   ·
    rw [if_pos c23] at H
    have c23b0 : decide (x21_1 < (t1445.length : Int)) = true := decide_eq_true c23
    clear c23
    by_cases c24 : 0 ≤ x21_1
    ·
     rw [if_pos c24] at H
     have c24b0 : decide (0 ≤ x21_1) = true := decide_eq_true c24
     clear c24
     by_cases c25 : x21_1 < (t1445.length : Int)
     ·
      rw [if_pos c25] at H
      have c25b0 : decide (x21_1 < (t1445.length : Int)) = true := decide_eq_true c25
      clear c25
      replace H := Option.bind_eq_some_iff.mp H
      obtain ⟨⟨t1453, t1454, t1455, t1456⟩, A260, H⟩ := H
      replace H : ((yL.f k1 a0_0 a0_1 a0_2 a0_3 l0_4 t1453 t1454 t1455 t1456 ((rd_T38 t1445 x21_1).f0) ((rd_T38 t1445 x21_1).f1)).bind fun t1457 => (if t1457 = true then (if x5_1.length < 8796093022208 then (yG.l0 k1 (x5_1 ++ [(⟨(rd_T38 t1445 x21_1).f0, (rd_T38 t1445 x21_1).f1⟩ : S38)]) t1445 (t1445.length : Int) (wrap64 (x21_1 + 1)) a0_0 a0_1 a0_2 a0_3 l0_4) else (none)) else (yG.l0 k1 x5_1 t1445 (t1445.length : Int) (wrap64 (x21_1 + 1)) a0_0 a0_1 a0_2 a0_3 l0_4))) = some (r1, r2, r3) := H
      have A26 := zC.mk A260
      clear A260
      replace H := Option.bind_eq_some_iff.mp H
      obtain ⟨t1457, A270, H⟩ := H
      replace H : (if t1457 = true then (if x5_1.length < 8796093022208 then (yG.l0 k1 (x5_1 ++ [(⟨(rd_T38 t1445 x21_1).f0, (rd_T38 t1445 x21_1).f1⟩ : S38)]) t1445 (t1445.length : Int) (wrap64 (x21_1 + 1)) a0_0 a0_1 a0_2 a0_3 l0_4) else (none)) else (yG.l0 k1 x5_1 t1445 (t1445.length : Int) (wrap64 (x21_1 + 1)) a0_0 a0_1 a0_2 a0_3 l0_4)) = some (r1, r2, r3) := H
      have A27 := zC.mk A270
      clear A270
      have HX28 := zC.mk H
      clear H
      have p1451 : 0 ≤ (x21_1 : Int) := of_decide_eq_true (by first | (with_reducible assumption) | assumption)
      have q1451 : x21_1 < (t1445.length : Int) := of_decide_eq_true (by first | (with_reducible assumption) | assumption)
      obtain ⟨ad1451, e1451, hx1451_0, hx1451_1⟩ := at_T38 (Kd.R_reads' HO_19.out).2.2 x21_1 p1451 q1451
      cases e1451
      replace p1451 := eq_true p1451
      replace q1451 := eq_true q1451
      try go_wp2_with (first | ((with_reducible refine zP (N := 7) rfl ?_); refine zO ?hg (N := 7) ?hd (cs := #[.int .i64 0, .int .i64 0]) (t := 38) ?hr ?_; (case hd => rfl); (case hg => rfl); (case hr => first | (go_simp; done) | (go_simp; rfl)); intro gb1452 hg w29 hbox hb; have n0_ := zC.mk (Kd.R_below (Kd.R_elderB (by (with_reducible repeat (first | apply Kd.R_alloc | apply Kd.R_drewN | apply Kd.R_drew)); exact HO_5.out) gb1452 (Nat.le_of_eq hg.symm)) hb); have n1_ := zC.mk (Kd.R_below (Kd.R_elderB (by (with_reducible repeat (first | apply Kd.R_alloc | apply Kd.R_drewN | apply Kd.R_drew)); exact HO_19.out) gb1452 (Nat.le_of_eq hg.symm)) hb); have n2_ := zC.mk (zK (g := gb1434) (o := .cells #[.int .i64 a0_0, .int .i64 a0_1, .int .i64 a0_2, .int .i64 a0_3, .slice A0_4 l0_4.length c0_4] 30 (0, 0)) (by (with_reducible repeat (first | refine zE ?_ _ | refine zI ?_ | refine zD ?_ _)); exact BK1434.out) hb); have n3_ := zC.mk (zK (g := gb1435) (o := .cells #[.int .i64 0, .int .i64 0, .int .i64 0] 28 (0, 0)) (by (with_reducible repeat (first | refine zE ?_ _ | refine zI ?_ | refine zD ?_ _)); exact BK1435.out) hb); have n4_ := zC.mk (zK (g := gb1440) (o := .cells #[.int .i64 t1436, .int .i64 t1437] 38 (0, 0)) (by (with_reducible repeat (first | refine zE ?_ _ | refine zI ?_ | refine zD ?_ _)); exact BK1440.out) hb); have n5_ := zC.mk (zK (g := gb1441) (o := .cells #[.int .i64 t1438, .int .i64 t1439] 38 (0, 0)) (by (with_reducible repeat (first | refine zE ?_ _ | refine zI ?_ | refine zD ?_ _)); exact BK1441.out) hb); have n6_ := zC.mk (zL (by repeat (first | (with_reducible first | exact HB.out | apply zG | apply zA | apply zF | refine zH ?_ GE1434.out | refine zH ?_ GE1435.out | refine zH ?_ GE1440.out | refine zH ?_ GE1441.out) | exact HB.out)) hb); have n7_ := zC.mk (hbox); have n8_ := zC.mk ((by rw [hg]; exact (zM (by repeat (first | (with_reducible first | exact HB.out | apply zG | apply zA | apply zF | refine zH ?_ GE1434.out | refine zH ?_ GE1435.out | refine zH ?_ GE1440.out | refine zH ?_ GE1441.out) | exact HB.out))) : w.heap.size ≤ gb1452)); have n9_ := n8_; have n10_ := zC.mk ((by rw [hg]; exact Nat.ne_of_lt (zX (by (with_reducible repeat (first | refine zE ?_ _ | refine zI ?_ | refine zD ?_ _)); exact BK1434.out)) : gb1434 ≠ gb1452)); have n11_ := zC.mk n10_.out.symm; have n12_ := zC.mk ((by rw [hg]; exact Nat.ne_of_lt (zX (by (with_reducible repeat (first | refine zE ?_ _ | refine zI ?_ | refine zD ?_ _)); exact BK1435.out)) : gb1435 ≠ gb1452)); have n13_ := zC.mk n12_.out.symm; have n14_ := zC.mk ((by rw [hg]; exact Nat.ne_of_lt (zX (by (with_reducible repeat (first | refine zE ?_ _ | refine zI ?_ | refine zD ?_ _)); exact BK1440.out)) : gb1440 ≠ gb1452)); have n15_ := zC.mk n14_.out.symm; have n16_ := zC.mk ((by rw [hg]; exact Nat.ne_of_lt (zX (by (with_reducible repeat (first | refine zE ?_ _ | refine zI ?_ | refine zD ?_ _)); exact BK1441.out)) : gb1441 ≠ gb1452)); have n17_ := zC.mk n16_.out.symm; clear HO_5; clear HO_19; clear BK1434; clear BK1435; clear BK1440; clear BK1441; clear HB; have HO_5 := n0_; have HO_19 := n1_; have BK1434 := n2_; have BK1435 := n3_; have BK1440 := n4_; have BK1441 := n5_; have HB := n6_; have BK1452 := n7_; have GW1452 := n8_; have GE1452 := n9_; have NB1434_1452 := n10_; have NB1452_1434 := n11_; have NB1435_1452 := n12_; have NB1452_1435 := n13_; have NB1440_1452 := n14_; have NB1452_1440 := n15_; have NB1441_1452 := n16_; have NB1452_1441 := n17_; clear n0_ n1_ n2_ n3_ n4_ n5_ n6_ n7_ n8_ n9_ n10_ n11_ n12_ n13_ n14_ n15_ n16_ n17_; clear hb hbox hg; have hnb30 := NB1452_1434.out; have hnc30 := NB1434_1452.out; have hnb31 := NB1452_1435.out; have hnc31 := NB1435_1452.out; have hnb32 := NB1452_1440.out; have hnc32 := NB1440_1452.out; have hnb33 := NB1452_1441.out; have hnc33 := NB1441_1452.out; have hcz34_0 : w29.cell? ⟨gb1452, 0, none⟩ = some (.int .i64 0) := zB BK1452.out 0; have hcz34_1 : w29.cell? ⟨gb1452, 1, none⟩ = some (.int .i64 0) := zB BK1452.out 1; have hfz34_0 := zJ BK1452.out 0; have hfz34_1 := zJ BK1452.out 1))
      have n0_ : zC (Kd.R k38 38 ((w29.setCell ⟨gb1452, 0, none⟩ (.int .i64 ((rd_T38 t1445 x21_1).f0))).setCell ⟨gb1452, 1, none⟩ (.int .i64 ((rd_T38 t1445 x21_1).f1))) w.heap.size (fun k_ => some k_ ≠ (.slice (some ad1451) t1445.length co22 : Value).ownBlock ∧ k_ ≠ gb1440 ∧ k_ ≠ gb1441 ∧ k_ ≠ gb1452) u5 x5_1) := ⟨by (with_reducible repeat (first | apply Kd.R_alloc | apply Kd.R_drewN | apply Kd.R_drew)); exact Kd.R_mono (Kd.R_far (p := ⟨gb1452, 1, none⟩) (Kd.R_far (p := ⟨gb1452, 0, none⟩) (Kd.R_mono HO_5.out (fun k_ hk => (⟨hk, hk.2⟩ : _ ∧ k_ ≠ gb1452))) (fun _ hk => hk.2) (.int .i64 ((rd_T38 t1445 x21_1).f0))) (fun _ hk => hk.2) (.int .i64 ((rd_T38 t1445 x21_1).f1))) (fun _ hk => ⟨hk.1.1.1, ⟨hk.1.1.2.1, ⟨hk.1.1.2.2, hk.1.2⟩⟩⟩)⟩
      have n1_ : zC (Kd.R k38 38 ((w29.setCell ⟨gb1452, 0, none⟩ (.int .i64 ((rd_T38 t1445 x21_1).f0))).setCell ⟨gb1452, 1, none⟩ (.int .i64 ((rd_T38 t1445 x21_1).f1))) w.heap.size (fun k_ => some k_ ≠ (u5 : Value).ownBlock ∧ k_ ≠ gb1440 ∧ k_ ≠ gb1441 ∧ k_ ≠ gb1452) (.slice (some ad1451) t1445.length co22) t1445) := ⟨by (with_reducible repeat (first | apply Kd.R_alloc | apply Kd.R_drewN | apply Kd.R_drew)); exact Kd.R_mono (Kd.R_far (p := ⟨gb1452, 1, none⟩) (Kd.R_far (p := ⟨gb1452, 0, none⟩) (Kd.R_mono HO_19.out (fun k_ hk => (⟨hk, hk.2⟩ : _ ∧ k_ ≠ gb1452))) (fun _ hk => hk.2) (.int .i64 ((rd_T38 t1445 x21_1).f0))) (fun _ hk => hk.2) (.int .i64 ((rd_T38 t1445 x21_1).f1))) (fun _ hk => ⟨hk.1.1.1, ⟨hk.1.1.2.1, ⟨hk.1.1.2.2, hk.1.2⟩⟩⟩)⟩
      have n2_ : zC (((w29.setCell ⟨gb1452, 0, none⟩ (.int .i64 ((rd_T38 t1445 x21_1).f0))).setCell ⟨gb1452, 1, none⟩ (.int .i64 ((rd_T38 t1445 x21_1).f1))).heap[gb1434]? = some (.cells #[.int .i64 a0_0, .int .i64 a0_1, .int .i64 a0_2, .int .i64 a0_3, .slice A0_4 l0_4.length c0_4] 30 (0, 0))) := ⟨by (with_reducible repeat (first | refine zE ?_ _ | refine zI ?_ | refine zD ?_ _)); refine zW ?_ NB1434_1452.out _; (with_reducible repeat (first | refine zE ?_ _ | refine zI ?_ | refine zD ?_ _)); refine zW ?_ NB1434_1452.out _; (with_reducible repeat (first | refine zE ?_ _ | refine zI ?_ | refine zD ?_ _)); exact BK1434.out⟩
      have n3_ : zC (((w29.setCell ⟨gb1452, 0, none⟩ (.int .i64 ((rd_T38 t1445 x21_1).f0))).setCell ⟨gb1452, 1, none⟩ (.int .i64 ((rd_T38 t1445 x21_1).f1))).heap[gb1435]? = some (.cells #[.int .i64 0, .int .i64 0, .int .i64 0] 28 (0, 0))) := ⟨by (with_reducible repeat (first | refine zE ?_ _ | refine zI ?_ | refine zD ?_ _)); refine zW ?_ NB1435_1452.out _; (with_reducible repeat (first | refine zE ?_ _ | refine zI ?_ | refine zD ?_ _)); refine zW ?_ NB1435_1452.out _; (with_reducible repeat (first | refine zE ?_ _ | refine zI ?_ | refine zD ?_ _)); exact BK1435.out⟩
      have n4_ : zC (((w29.setCell ⟨gb1452, 0, none⟩ (.int .i64 ((rd_T38 t1445 x21_1).f0))).setCell ⟨gb1452, 1, none⟩ (.int .i64 ((rd_T38 t1445 x21_1).f1))).heap[gb1440]? = some (.cells #[.int .i64 t1436, .int .i64 t1437] 38 (0, 0))) := ⟨by (with_reducible repeat (first | refine zE ?_ _ | refine zI ?_ | refine zD ?_ _)); refine zW ?_ NB1440_1452.out _; (with_reducible repeat (first | refine zE ?_ _ | refine zI ?_ | refine zD ?_ _)); refine zW ?_ NB1440_1452.out _; (with_reducible repeat (first | refine zE ?_ _ | refine zI ?_ | refine zD ?_ _)); exact BK1440.out⟩
      have n5_ : zC (((w29.setCell ⟨gb1452, 0, none⟩ (.int .i64 ((rd_T38 t1445 x21_1).f0))).setCell ⟨gb1452, 1, none⟩ (.int .i64 ((rd_T38 t1445 x21_1).f1))).heap[gb1441]? = some (.cells #[.int .i64 t1438, .int .i64 t1439] 38 (0, 0))) := ⟨by (with_reducible repeat (first | refine zE ?_ _ | refine zI ?_ | refine zD ?_ _)); refine zW ?_ NB1441_1452.out _; (with_reducible repeat (first | refine zE ?_ _ | refine zI ?_ | refine zD ?_ _)); refine zW ?_ NB1441_1452.out _; (with_reducible repeat (first | refine zE ?_ _ | refine zI ?_ | refine zD ?_ _)); exact BK1441.out⟩
      have n6_ : zC (((w29.setCell ⟨gb1452, 0, none⟩ (.int .i64 ((rd_T38 t1445 x21_1).f0))).setCell ⟨gb1452, 1, none⟩ (.int .i64 ((rd_T38 t1445 x21_1).f1))).heap[gb1452]? = some (.cells #[.int .i64 ((rd_T38 t1445 x21_1).f0), .int .i64 ((rd_T38 t1445 x21_1).f1)] 38 (0, 0))) := ⟨by (with_reducible repeat (first | refine zE ?_ _ | refine zI ?_ | refine zD ?_ _)); refine zU (cs := #[.int .i64 ((rd_T38 t1445 x21_1).f0), .int .i64 0]) ?_ 1 _ rfl; (with_reducible repeat (first | refine zE ?_ _ | refine zI ?_ | refine zD ?_ _)); refine zU (cs := #[.int .i64 0, .int .i64 0]) ?_ 0 _ rfl; (with_reducible repeat (first | refine zE ?_ _ | refine zI ?_ | refine zD ?_ _)); exact BK1452.out⟩
      have n7_ : zC (Below w.heap.size w ((w29.setCell ⟨gb1452, 0, none⟩ (.int .i64 ((rd_T38 t1445 x21_1).f0))).setCell ⟨gb1452, 1, none⟩ (.int .i64 ((rd_T38 t1445 x21_1).f1)))) := ⟨by repeat (first | (with_reducible first | exact HB.out | apply zG | apply zA | apply zF | refine zH ?_ GE1434.out | refine zH ?_ GE1435.out | refine zH ?_ GE1440.out | refine zH ?_ GE1441.out | refine zH ?_ GE1452.out) | exact HB.out)⟩
      (try clear HO_5)
      (try clear HO_19)
      (try clear BK1434)
      (try clear BK1435)
      (try clear BK1440)
      (try clear BK1441)
      (try clear BK1452)
      (try clear HB)
      generalize ((w29.setCell ⟨gb1452, 0, none⟩ (.int .i64 ((rd_T38 t1445 x21_1).f0))).setCell ⟨gb1452, 1, none⟩ (.int .i64 ((rd_T38 t1445 x21_1).f1))) = w35 at n0_ n1_ n2_ n3_ n4_ n5_ n6_ n7_ ⊢
      have HO_5 := n0_
      have HO_19 := n1_
      have BK1434 := n2_
      have BK1435 := n3_
      have BK1440 := n4_
      have BK1441 := n5_
      have BK1452 := n6_
      have HB := n7_
      clear n0_ n1_ n2_ n3_ n4_ n5_ n6_ n7_
      have n0_ := zC.mk (Kd.R_drew HO_5.out)
      have n1_ := zC.mk (Kd.R_drew HO_19.out)
      have n2_ := zC.mk (zI BK1434.out)
      have n3_ := zC.mk (zI BK1435.out)
      have n4_ := zC.mk (zI BK1440.out)
      have n5_ := zC.mk (zI BK1441.out)
      have n6_ := zC.mk (zI BK1452.out)
      have n7_ := zC.mk (zF HB.out)
      clear HO_5
      clear HO_19
      clear BK1434
      clear BK1435
      clear BK1440
      clear BK1441
      clear BK1452
      clear HB
      have HO_5 := n0_
      have HO_19 := n1_
      have BK1434 := n2_
      have BK1435 := n3_
      have BK1440 := n4_
      have BK1441 := n5_
      have BK1452 := n6_
      have HB := n7_
      clear n0_ n1_ n2_ n3_ n4_ n5_ n6_ n7_
      refine start_ (n := 5) (S := fun w' => w'.cell? ⟨gb1434, 0, none⟩ = some (.int .i64 a0_0) ∧ w'.cell? ⟨gb1434, 1, none⟩ = some (.int .i64 a0_1) ∧ w'.cell? ⟨gb1434, 2, none⟩ = some (.int .i64 a0_2) ∧ w'.cell? ⟨gb1434, 3, none⟩ = some (.int .i64 a0_3) ∧ w'.cell? ⟨gb1434, 4, none⟩ = some (.slice A0_4 l0_4.length c0_4) ∧ w'.cell? ⟨gb1452, 0, none⟩ = some (.int .i64 ((rd_T38 t1445 x21_1).f0)) ∧ w'.cell? ⟨gb1452, 1, none⟩ = some (.int .i64 ((rd_T38 t1445 x21_1).f1))) (ds := []) #[false, false, false, false, false] (by kernel_rfl) rfl rfl ⟨zB BK1434.out 0, zB BK1434.out 1, zB BK1434.out 2, zB BK1434.out 3, zB BK1434.out 4, zB BK1452.out 0, zB BK1452.out 1⟩ (fun hHeld => ?_)
      generalize w35.drew = w36 at HO_5 HO_19 BK1434 BK1435 BK1440 BK1441 BK1452 HB hHeld ⊢
      refine yC (i := 0) (N := some 25) (v := ?_) (a' := ?_) #[true, false, false, false, false] rfl rfl (by kernel_rfl) (fun _ _ _ h => h) (Or.inl ⟨by rfl, ?_⟩) hHeld ?_ ?_
      rotate_left
      ·
       rintro w' ⟨s0, s1, s2, s3, s4, s5, s6⟩
       go_simp
       with_reducible rfl
      rotate_left
      ·
       simp only [Act.put, List.setIfInBounds_toArray, List.set_cons_zero, List.set_cons_succ, zQ, zR]
       rfl
      refine yC (i := 2) (N := some 27) (v := ?_) (a' := ?_) #[true, false, true, false, false] rfl rfl (by kernel_rfl) (fun _ _ _ h => h) (Or.inl ⟨by rfl, ?_⟩) hHeld ?_ ?_
      rotate_left
      ·
       rintro w' ⟨s0, s1, s2, s3, s4, s5, s6⟩
       go_simp
       with_reducible rfl
      rotate_left
      ·
       simp only [Act.put, List.setIfInBounds_toArray, List.set_cons_zero, List.set_cons_succ, zQ, zR]
       rfl
      refine one_ (i := 1) (N := some 26) #[true, true, true, false, false] rfl rfl (by kernel_rfl) (by decide) (fun K hK => ?_)
      refine yD Try.func81 (by kernel_rfl) rfl #[] (by rfl) rfl rfl (by (try simp only [List.map_toArray, List.map_cons, List.map_nil]); first | done | rfl) ?_
      with_reducible refine (wW.calls  t1453 t1454 t1455 t1456 _ A26.out).mono ?_
      rintro e w37 ⟨rfl, hb⟩
      refine ⟨_, rfl, ?_⟩
      have n0_ := zC.mk (Kd.R_below (by (with_reducible repeat (first | apply Kd.R_alloc | apply Kd.R_drewN | apply Kd.R_drew)); exact HO_5.out) hb)
      have n1_ := zC.mk (Kd.R_below (by (with_reducible repeat (first | apply Kd.R_alloc | apply Kd.R_drewN | apply Kd.R_drew)); exact HO_19.out) hb)
      have n2_ := zC.mk (zK (g := gb1434) (o := .cells #[.int .i64 a0_0, .int .i64 a0_1, .int .i64 a0_2, .int .i64 a0_3, .slice A0_4 l0_4.length c0_4] 30 (0, 0)) (by (with_reducible repeat (first | refine zE ?_ _ | refine zI ?_ | refine zD ?_ _)); exact BK1434.out) hb)
      have n3_ := zC.mk (zK (g := gb1435) (o := .cells #[.int .i64 0, .int .i64 0, .int .i64 0] 28 (0, 0)) (by (with_reducible repeat (first | refine zE ?_ _ | refine zI ?_ | refine zD ?_ _)); exact BK1435.out) hb)
      have n4_ := zC.mk (zK (g := gb1440) (o := .cells #[.int .i64 t1436, .int .i64 t1437] 38 (0, 0)) (by (with_reducible repeat (first | refine zE ?_ _ | refine zI ?_ | refine zD ?_ _)); exact BK1440.out) hb)
      have n5_ := zC.mk (zK (g := gb1441) (o := .cells #[.int .i64 t1438, .int .i64 t1439] 38 (0, 0)) (by (with_reducible repeat (first | refine zE ?_ _ | refine zI ?_ | refine zD ?_ _)); exact BK1441.out) hb)
      have n6_ := zC.mk (zK (g := gb1452) (o := .cells #[.int .i64 ((rd_T38 t1445 x21_1).f0), .int .i64 ((rd_T38 t1445 x21_1).f1)] 38 (0, 0)) (by (with_reducible repeat (first | refine zE ?_ _ | refine zI ?_ | refine zD ?_ _)); exact BK1452.out) hb)
      have n7_ := zC.mk (zL (by repeat (first | (with_reducible first | exact HB.out | apply zG | apply zA | apply zF | refine zH ?_ GE1434.out | refine zH ?_ GE1435.out | refine zH ?_ GE1440.out | refine zH ?_ GE1441.out | refine zH ?_ GE1452.out) | exact HB.out)) hb)
      clear HO_5
      clear HO_19
      clear BK1434
      clear BK1435
      clear BK1440
      clear BK1441
      clear BK1452
      clear HB
      have HO_5 := n0_
      have HO_19 := n1_
      have BK1434 := n2_
      have BK1435 := n3_
      have BK1440 := n4_
      have BK1441 := n5_
      have BK1452 := n6_
      have HB := n7_
      clear n0_ n1_ n2_ n3_ n4_ n5_ n6_ n7_
      (try clear hb)
      refine hK.out _ _ ⟨zB BK1434.out 0, zB BK1434.out 1, zB BK1434.out 2, zB BK1434.out 3, zB BK1434.out 4, zB BK1452.out 0, zB BK1452.out 1⟩ (fun hHeld => ?_)
      clear hK K
      refine yA (a' := ?_) ?_ ?_
      rotate_left
      ·
       show Act.put _ (some 26) _ = _
       simp only [Act.put, List.setIfInBounds_toArray, List.set_cons_zero, List.set_cons_succ, zQ, zR]
       rfl
      refine zT (i := 3) (N := some 28) (v := ?_) (a' := ?_) #[true, true, true, true, false] rfl rfl (by kernel_rfl) (fun _ _ _ h => h) (Or.inl ⟨by rfl, ?_⟩) ?_ ?_
      rotate_left
      ·
       intro w'
       go_simp
       with_reducible rfl
      rotate_left
      ·
       simp only [Act.put, List.setIfInBounds_toArray, List.set_cons_zero, List.set_cons_succ, zQ, zR]
       rfl
      refine one_ (i := 4) (N := some 29) #[true, true, true, true, true] rfl rfl (by kernel_rfl) (by decide) (fun K hK => ?_)
      refine yD Try.func151 (by kernel_rfl) rfl #[.agg #[.int .i64 a0_0, .int .i64 a0_1, .int .i64 a0_2, .int .i64 a0_3, .slice A0_4 l0_4.length c0_4], .agg #[.int .i64 t1453, .int .i64 t1454, .int .i64 t1455, .int .i64 t1456, .int .i64 ((rd_T38 t1445 x21_1).f0), .int .i64 ((rd_T38 t1445 x21_1).f1)]] (by rfl) rfl rfl (by (try simp only [List.map_toArray, List.map_cons, List.map_nil]); first | done | rfl) ?_
      with_reducible refine (yL.calls k1 a0_0 a0_1 a0_2 a0_3 _ _ l0_4 t1453 t1454 t1455 t1456 ((rd_T38 t1445 x21_1).f0) ((rd_T38 t1445 x21_1).f1) t1457 _ ?side1 ?side2 A27.out).mono ?_
      (case side1 => repeat (first | exact (Kd.C_below HR0_4.out HB.out) | (with_reducible refine Kd.C_alloc ?_ _) | (with_reducible refine Kd.C_drewN ?_ _) | (with_reducible refine Kd.C_drew ?_)))
      (case side2 => exact HC0_4.out)
      rintro e w38 ⟨rfl, hb⟩
      refine ⟨_, rfl, ?_⟩
      have n0_ := zC.mk (Kd.R_below (by (with_reducible repeat (first | apply Kd.R_alloc | apply Kd.R_drewN | apply Kd.R_drew)); exact HO_5.out) hb)
      have n1_ := zC.mk (Kd.R_below (by (with_reducible repeat (first | apply Kd.R_alloc | apply Kd.R_drewN | apply Kd.R_drew)); exact HO_19.out) hb)
      have n2_ := zC.mk (zK (g := gb1434) (o := .cells #[.int .i64 a0_0, .int .i64 a0_1, .int .i64 a0_2, .int .i64 a0_3, .slice A0_4 l0_4.length c0_4] 30 (0, 0)) (by (with_reducible repeat (first | refine zE ?_ _ | refine zI ?_ | refine zD ?_ _)); exact BK1434.out) hb)
      have n3_ := zC.mk (zK (g := gb1435) (o := .cells #[.int .i64 0, .int .i64 0, .int .i64 0] 28 (0, 0)) (by (with_reducible repeat (first | refine zE ?_ _ | refine zI ?_ | refine zD ?_ _)); exact BK1435.out) hb)
      have n4_ := zC.mk (zK (g := gb1440) (o := .cells #[.int .i64 t1436, .int .i64 t1437] 38 (0, 0)) (by (with_reducible repeat (first | refine zE ?_ _ | refine zI ?_ | refine zD ?_ _)); exact BK1440.out) hb)
      have n5_ := zC.mk (zK (g := gb1441) (o := .cells #[.int .i64 t1438, .int .i64 t1439] 38 (0, 0)) (by (with_reducible repeat (first | refine zE ?_ _ | refine zI ?_ | refine zD ?_ _)); exact BK1441.out) hb)
      have n6_ := zC.mk (zK (g := gb1452) (o := .cells #[.int .i64 ((rd_T38 t1445 x21_1).f0), .int .i64 ((rd_T38 t1445 x21_1).f1)] 38 (0, 0)) (by (with_reducible repeat (first | refine zE ?_ _ | refine zI ?_ | refine zD ?_ _)); exact BK1452.out) hb)
      have n7_ := zC.mk (zL (by repeat (first | (with_reducible first | exact HB.out | apply zG | apply zA | apply zF | refine zH ?_ GE1434.out | refine zH ?_ GE1435.out | refine zH ?_ GE1440.out | refine zH ?_ GE1441.out | refine zH ?_ GE1452.out) | exact HB.out)) hb)
      clear HO_5
      clear HO_19
      clear BK1434
      clear BK1435
      clear BK1440
      clear BK1441
      clear BK1452
      clear HB
      have HO_5 := n0_
      have HO_19 := n1_
      have BK1434 := n2_
      have BK1435 := n3_
      have BK1440 := n4_
      have BK1441 := n5_
      have BK1452 := n6_
      have HB := n7_
      clear n0_ n1_ n2_ n3_ n4_ n5_ n6_ n7_
      (try clear hb)
      refine hK.out _ _ ⟨zB BK1434.out 0, zB BK1434.out 1, zB BK1434.out 2, zB BK1434.out 3, zB BK1434.out 4, zB BK1452.out 0, zB BK1452.out 1⟩ (fun hHeld => ?_)
      clear hK K
      refine yA (a' := ?_) ?_ ?_
      rotate_left
      ·
       show Act.put _ (some 29) _ = _
       simp only [Act.put, List.setIfInBounds_toArray, List.set_cons_zero, List.set_cons_succ, zQ, zR]
       rfl
      refine done_ (by kernel_rfl) ?_
      go_upto_if 29 with (fail)
      have H := HX28.out
      clear HX28
      by_cases c39 : t1457 = true
      ·
       subst c39
       have H1 : (if x5_1.length < 8796093022208 then (yG.l0 k1 (x5_1 ++ [(⟨(rd_T38 t1445 x21_1).f0, (rd_T38 t1445 x21_1).f1⟩ : S38)]) t1445 (t1445.length : Int) (wrap64 (x21_1 + 1)) a0_0 a0_1 a0_2 a0_3 l0_4) else (none)) = some (r1, r2, r3) := by rw [if_pos rfl] at H; exact H
       clear H
       have H := H1
       clear H1
       by_cases c40 : x5_1.length < 8796093022208
       ·
        rw [if_pos c40] at H
        have LMc40 := zC.mk c40
        clear c40
        obtain ⟨y1458, hy1458⟩ : ∃ y_ : List (S38), y_ = (x5_1 ++ [(⟨(rd_T38 t1445 x21_1).f0, (rd_T38 t1445 x21_1).f1⟩ : S38)]) := ⟨_, rfl⟩
        replace H : (yG.l0 k1 y1458 t1445 (t1445.length : Int) (wrap64 (x21_1 + 1)) a0_0 a0_1 a0_2 a0_3 l0_4) = some (r1, r2, r3) := by first | (rw [hy1458]; with_reducible exact H) | (have H2_ := (Option.bind_some _ _).symm.trans H; rw [hy1458]; with_reducible exact H2_) | (have H2_ := (Option.bind_some _ _).symm.trans H; with_reducible exact H2_) | with_reducible exact H | (rw [hy1458]; exact H) | exact H
        have Ny1458 := zC.mk hy1458
        clear hy1458
        have H' := zC.mk H
        clear H
        have hnb41 := NB1452_1434.out
        have hnc41 := NB1434_1452.out
        have hnb42 := NB1452_1435.out
        have hnc42 := NB1435_1452.out
        have hnb43 := NB1452_1440.out
        have hnc43 := NB1440_1452.out
        have hnb44 := NB1452_1441.out
        have hnc44 := NB1441_1452.out
        have hcz45_0 : w38.cell? ⟨gb1452, 0, none⟩ = some (.int .i64 ((rd_T38 t1445 x21_1).f0)) := zB BK1452.out 0
        have hcz45_1 : w38.cell? ⟨gb1452, 1, none⟩ = some (.int .i64 ((rd_T38 t1445 x21_1).f1)) := zB BK1452.out 1
        have hfz45_0 := zJ BK1452.out 0
        have hfz45_1 := zJ BK1452.out 1
        go_wp2_with (first | ((with_reducible refine gate_builtin (b := .append) (xs := #[.tmp 30, .tmp 32]) rfl ?_); at_builtin; refine Kd.R_append k38 (w0 := w) w.heap.size rfl (.tmp 30) (.tmp 32) 47 38 (.agg #[(.int .i64 0), (.int .i64 0)]) 16 rfl Try.underlying47 info38 rfl (by decide) (by omega) u5 x5_1 (⟨(rd_T38 t1445 x21_1).f0, (rd_T38 t1445 x21_1).f1⟩ : S38) [.int .i64 ((rd_T38 t1445 x21_1).f0), .int .i64 ((rd_T38 t1445 x21_1).f1)] (fun k_ => some k_ ≠ (.slice (some ad1451) t1445.length co22 : Value).ownBlock ∧ k_ ≠ gb1440 ∧ k_ ≠ gb1441 ∧ k_ ≠ gb1452) (fun _ => False) rfl rfl ?aP (fun _ hk => hk.elim) ?aF ?aO ?aB ?aS ?aL ?_; (case aP => exact k38_mkM _ _ _ (⟨(rd_T38 t1445 x21_1).f0, (rd_T38 t1445 x21_1).f1⟩ : S38)); (case aB => exact (by repeat (first | (with_reducible first | exact HB.out | apply zG | apply zA | apply zF | refine zH ?_ GE1434.out | refine zH ?_ GE1435.out | refine zH ?_ GE1440.out | refine zH ?_ GE1441.out | refine zH ?_ GE1452.out) | exact HB.out))); (case aF => exact (fun k_ hk => ⟨Kd.fresh' (Kd.R_lt (by (with_reducible repeat (first | apply Kd.R_alloc | apply Kd.R_drewN | apply Kd.R_drew)); exact HO_19.out)) k_ hk, Kd.freshB (g := gb1440) (o := .cells #[.int .i64 t1436, .int .i64 t1437] 38 (0, 0)) (by (with_reducible repeat (first | refine zE ?_ _ | refine zI ?_ | refine zD ?_ _)); exact BK1440.out) k_ hk, Kd.freshB (g := gb1441) (o := .cells #[.int .i64 t1438, .int .i64 t1439] 38 (0, 0)) (by (with_reducible repeat (first | refine zE ?_ _ | refine zI ?_ | refine zD ?_ _)); exact BK1441.out) k_ hk, Kd.freshB (g := gb1452) (o := .cells #[.int .i64 ((rd_T38 t1445 x21_1).f0), .int .i64 ((rd_T38 t1445 x21_1).f1)] 38 (0, 0)) (by (with_reducible repeat (first | refine zE ?_ _ | refine zI ?_ | refine zD ?_ _)); exact BK1452.out) k_ hk⟩)); (case aO => exact (by (with_reducible repeat (first | apply Kd.R_alloc | apply Kd.R_drewN | apply Kd.R_drew)); exact HO_5.out)); (case aS => exact (zM (by repeat (first | (with_reducible first | exact HB.out | apply zG | apply zA | apply zF | refine zH ?_ GE1434.out | refine zH ?_ GE1435.out | refine zH ?_ GE1440.out | refine zH ?_ GE1441.out | refine zH ?_ GE1452.out) | exact HB.out)))); (case aL => have := LMc40.out; omega); intro v1459 w46 ho hb hg hat; rw [← Ny1458.out] at ho; have n0_ := zC.mk (Kd.R_after (ok := (fun k_ => k_ ≠ gb1440 ∧ k_ ≠ gb1441 ∧ k_ ≠ gb1452)) (by (with_reducible repeat (first | apply Kd.R_alloc | apply Kd.R_drewN | apply Kd.R_drew)); exact Kd.R_mono HO_19.out (fun _ hk => ⟨⟨hk.2.1, ⟨hk.2.2.1, hk.2.2.2⟩⟩, hk.1⟩)) hg hat); have n1_ := zC.mk (blk_grown (g := gb1434) (o := .cells #[.int .i64 a0_0, .int .i64 a0_1, .int .i64 a0_2, .int .i64 a0_3, .slice A0_4 l0_4.length c0_4] 30 (0, 0)) (by (with_reducible repeat (first | refine zE ?_ _ | refine zI ?_ | refine zD ?_ _)); exact BK1434.out) hg (Kd.R_ne HO_5.out BK1434.out (by decide))); have n2_ := zC.mk (blk_grown (g := gb1435) (o := .cells #[.int .i64 0, .int .i64 0, .int .i64 0] 28 (0, 0)) (by (with_reducible repeat (first | refine zE ?_ _ | refine zI ?_ | refine zD ?_ _)); exact BK1435.out) hg (Kd.R_ne HO_5.out BK1435.out (by decide))); have n3_ := zC.mk (blk_grown (g := gb1440) (o := .cells #[.int .i64 t1436, .int .i64 t1437] 38 (0, 0)) (by (with_reducible repeat (first | refine zE ?_ _ | refine zI ?_ | refine zD ?_ _)); exact BK1440.out) hg (Kd.R_away HO_5.out (fun _ hk => hk.2.1))); have n4_ := zC.mk (blk_grown (g := gb1441) (o := .cells #[.int .i64 t1438, .int .i64 t1439] 38 (0, 0)) (by (with_reducible repeat (first | refine zE ?_ _ | refine zI ?_ | refine zD ?_ _)); exact BK1441.out) hg (Kd.R_away HO_5.out (fun _ hk => hk.2.2.1))); have n5_ := zC.mk (blk_grown (g := gb1452) (o := .cells #[.int .i64 ((rd_T38 t1445 x21_1).f0), .int .i64 ((rd_T38 t1445 x21_1).f1)] 38 (0, 0)) (by (with_reducible repeat (first | refine zE ?_ _ | refine zI ?_ | refine zD ?_ _)); exact BK1452.out) hg (Kd.R_away HO_5.out (fun _ hk => hk.2.2.2))); have n6_ := zC.mk (hb); have n7_ := zC.mk (ho); clear HO_19; clear BK1434; clear BK1435; clear BK1440; clear BK1441; clear BK1452; clear HB; clear HO_5; have HO_19 := n0_; have BK1434 := n1_; have BK1435 := n2_; have BK1440 := n3_; have BK1441 := n4_; have BK1452 := n5_; have HB := n6_; have HO1460 := n7_; clear n0_ n1_ n2_ n3_ n4_ n5_ n6_ n7_; clear ho hb hg hat))
        go_roundg k1
        case measure => have := HK1.out; omega
        case rel => exact ⟨(y1458), (wrap64 (x21_1 + 1)), (by first | rfl | (simp; done) | (simp [*]; done)), H', ⟨by have := HK1.out; omega⟩, ⟨by (with_reducible repeat (first | apply Kd.R_alloc | apply Kd.R_drewN | apply Kd.R_drew)); exact Kd.R_mono HO1460.out (fun _ hk => ⟨hk.1, ⟨hk.2.1, hk.2.2.1⟩⟩)⟩, ⟨by (with_reducible repeat (first | apply Kd.R_alloc | apply Kd.R_drewN | apply Kd.R_drew)); exact Kd.R_mono HO_19.out (fun _ hk => ⟨hk.2, ⟨hk.1.1, hk.1.2.1⟩⟩)⟩, ⟨by (with_reducible repeat (first | refine zE ?_ _ | refine zI ?_ | refine zD ?_ _)); exact BK1434.out⟩, ⟨by (with_reducible repeat (first | refine zE ?_ _ | refine zI ?_ | refine zD ?_ _)); exact BK1435.out⟩, ⟨by (with_reducible repeat (first | refine zE ?_ _ | refine zI ?_ | refine zD ?_ _)); exact BK1440.out⟩, ⟨by (with_reducible repeat (first | refine zE ?_ _ | refine zI ?_ | refine zD ?_ _)); exact BK1441.out⟩, ⟨by repeat (first | (with_reducible first | exact HB.out | apply zG | apply zA | apply zF | refine zH ?_ GE1434.out | refine zH ?_ GE1435.out | refine zH ?_ GE1440.out | refine zH ?_ GE1441.out | refine zH ?_ GE1452.out) | exact HB.out)⟩⟩
       ·
        rw [if_neg c40] at H
        exact absurd H (by simp)
      ·
       replace c39 := Bool.eq_false_iff.mpr c39
       subst c39
       have H1 : (yG.l0 k1 x5_1 t1445 (t1445.length : Int) (wrap64 (x21_1 + 1)) a0_0 a0_1 a0_2 a0_3 l0_4) = some (r1, r2, r3) := by rw [if_neg (show ¬ (false = true) by decide)] at H; exact H
       clear H
       have H := H1
       clear H1
       have H' := zC.mk H
       clear H
       go_wp2
       go_roundg k1
       case measure => have := HK1.out; omega
       case rel => exact ⟨(x5_1), (wrap64 (x21_1 + 1)), (by first | rfl | (simp; done) | (simp [*]; done)), H', ⟨by have := HK1.out; omega⟩, ⟨by (with_reducible repeat (first | apply Kd.R_alloc | apply Kd.R_drewN | apply Kd.R_drew)); exact Kd.R_mono HO_5.out (fun _ hk => ⟨hk.1, ⟨hk.2.1, hk.2.2.1⟩⟩)⟩, ⟨by (with_reducible repeat (first | apply Kd.R_alloc | apply Kd.R_drewN | apply Kd.R_drew)); exact Kd.R_mono HO_19.out (fun _ hk => ⟨hk.1, ⟨hk.2.1, hk.2.2.1⟩⟩)⟩, ⟨by (with_reducible repeat (first | refine zE ?_ _ | refine zI ?_ | refine zD ?_ _)); exact BK1434.out⟩, ⟨by (with_reducible repeat (first | refine zE ?_ _ | refine zI ?_ | refine zD ?_ _)); exact BK1435.out⟩, ⟨by (with_reducible repeat (first | refine zE ?_ _ | refine zI ?_ | refine zD ?_ _)); exact BK1440.out⟩, ⟨by (with_reducible repeat (first | refine zE ?_ _ | refine zI ?_ | refine zD ?_ _)); exact BK1441.out⟩, ⟨by repeat (first | (with_reducible first | exact HB.out | apply zG | apply zA | apply zF | refine zH ?_ GE1434.out | refine zH ?_ GE1435.out | refine zH ?_ GE1440.out | refine zH ?_ GE1441.out | refine zH ?_ GE1452.out) | exact HB.out)⟩⟩
     ·
      rw [if_neg c25] at H
      exact absurd H (by simp)
    ·
     rw [if_neg c24] at H
     exact absurd H (by simp)
   ·
    rw [if_neg c23] at H
    have c23b0 : decide (x21_1 < (t1445.length : Int)) = false := decide_eq_false c23
    clear c23
    replace H := Option.bind_eq_some_iff.mp H
    obtain ⟨⟨t1448, t1449, t1450⟩, A470, H⟩ := H
    replace H : (some (t1448, t1449, t1450)) = some (r1, r2, r3) := H
    have A47 := zC.mk A470
    clear A470
    simp only [Option.some.injEq, Prod.mk.injEq] at H
    obtain ⟨rfl, rfl, rfl⟩ := H
    obtain ⟨Ao48, co48, eo48⟩ := Kd.R_slice HO_5.out
    subst eo48
    go_wp2_with (first | ((with_reducible refine zS (f := 130) rfl ?_); refine zZ (some 36) rfl rfl Try.func130 (by kernel_rfl) rfl #[.slice Ao48 x5_1.length co48] rfl (by (try simp only [List.map_toArray, List.map_cons, List.map_nil]); first | done | rfl) ?_; (with_reducible refine (yI.calls k1 _ _ x5_1 t1448 t1449 t1450 _ ?side1 ?side2 A47.out).mono ?_); (case side1 => repeat (first | exact (Kd.R_reads' HO_5.out).2.2 | (with_reducible refine Kd.C_alloc ?_ _) | (with_reducible refine Kd.C_drewN ?_ _) | (with_reducible refine Kd.C_drew ?_))); (case side2 => exact (Kd.R_reads' HO_5.out).2.1); rintro e w49 ⟨rfl, hb⟩; refine ⟨_, rfl, ?_⟩; have n0_ := zC.mk (Kd.R_below (by (with_reducible repeat (first | apply Kd.R_alloc | apply Kd.R_drewN | apply Kd.R_drew)); exact HO_5.out) hb); have n1_ := zC.mk (Kd.R_below (by (with_reducible repeat (first | apply Kd.R_alloc | apply Kd.R_drewN | apply Kd.R_drew)); exact HO_19.out) hb); have n2_ := zC.mk (zK (g := gb1434) (o := .cells #[.int .i64 a0_0, .int .i64 a0_1, .int .i64 a0_2, .int .i64 a0_3, .slice A0_4 l0_4.length c0_4] 30 (0, 0)) (by (with_reducible repeat (first | refine zE ?_ _ | refine zI ?_ | refine zD ?_ _)); exact BK1434.out) hb); have n3_ := zC.mk (zK (g := gb1435) (o := .cells #[.int .i64 0, .int .i64 0, .int .i64 0] 28 (0, 0)) (by (with_reducible repeat (first | refine zE ?_ _ | refine zI ?_ | refine zD ?_ _)); exact BK1435.out) hb); have n4_ := zC.mk (zK (g := gb1440) (o := .cells #[.int .i64 t1436, .int .i64 t1437] 38 (0, 0)) (by (with_reducible repeat (first | refine zE ?_ _ | refine zI ?_ | refine zD ?_ _)); exact BK1440.out) hb); have n5_ := zC.mk (zK (g := gb1441) (o := .cells #[.int .i64 t1438, .int .i64 t1439] 38 (0, 0)) (by (with_reducible repeat (first | refine zE ?_ _ | refine zI ?_ | refine zD ?_ _)); exact BK1441.out) hb); have n6_ := zC.mk (zL (by repeat (first | (with_reducible first | exact HB.out | apply zG | apply zA | apply zF | refine zH ?_ GE1434.out | refine zH ?_ GE1435.out | refine zH ?_ GE1440.out | refine zH ?_ GE1441.out) | exact HB.out)) hb); clear HO_5; clear HO_19; clear BK1434; clear BK1435; clear BK1440; clear BK1441; clear HB; have HO_5 := n0_; have HO_19 := n1_; have BK1434 := n2_; have BK1435 := n3_; have BK1440 := n4_; have BK1441 := n5_; have HB := n6_; clear n0_ n1_ n2_ n3_ n4_ n5_ n6_; (try clear hb); have hnb50 := NB1435_1434.out; have hnc50 := NB1434_1435.out; have hnb51 := NB1435_1440.out; have hnc51 := NB1440_1435.out; have hnb52 := NB1435_1441.out; have hnc52 := NB1441_1435.out; have hcz53_0 : w49.cell? ⟨gb1435, 0, none⟩ = some (.int .i64 0) := zB BK1435.out 0; have hcz53_1 : w49.cell? ⟨gb1435, 1, none⟩ = some (.int .i64 0) := zB BK1435.out 1; have hcz53_2 : w49.cell? ⟨gb1435, 2, none⟩ = some (.int .i64 0) := zB BK1435.out 2; have hfz53_0 := zJ BK1435.out 0; have hfz53_1 := zJ BK1435.out 1; have hfz53_2 := zJ BK1435.out 2))
    refine bodyPost_ret (results_cell_row rfl _ _ gb1435 28 #[.int .i64 t1448, .int .i64 t1449, .int .i64 t1450] (0, 0) _ rfl (by (with_reducible repeat (first | refine zE ?_ _ | refine zI ?_ | refine zD ?_ _)); refine zU (cs := #[.int .i64 t1448, .int .i64 t1449, .int .i64 0]) ?_ 2 _ rfl; (with_reducible repeat (first | refine zE ?_ _ | refine zI ?_ | refine zD ?_ _)); refine zU (cs := #[.int .i64 t1448, .int .i64 0, .int .i64 0]) ?_ 1 _ rfl; (with_reducible repeat (first | refine zE ?_ _ | refine zI ?_ | refine zD ?_ _)); refine zU (cs := #[.int .i64 0, .int .i64 0, .int .i64 0]) ?_ 0 _ rfl; (with_reducible repeat (first | refine zE ?_ _ | refine zI ?_ | refine zD ?_ _)); exact BK1435.out) Try.underlying28 rfl (by kernel_rfl)) rfl ?_
    exact ⟨by first | rfl | (simp [*, errW_none, errW_some] <;> rfl), by repeat (first | (with_reducible first | exact HB.out | apply zG | apply zA | apply zF | refine zH ?_ GE1434.out | refine zH ?_ GE1435.out | refine zH ?_ GE1440.out | refine zH ?_ GE1441.out) | exact HB.out)⟩
theorem xH.calls (k : Nat) (a0_0 : Int) (a0_1 : Int) (a0_2 : Int) (a0_3 : Int) (A0_4 : Option Addr) (c0_4 : Nat) (l0_4 : List Int) (r1 : Int) (r2 : Int) (r3 : Int) (r4 : Int) (w : World) (hr0_4 : Kd.C (Kd.int .i64) w A0_4 l0_4.length l0_4) (hc0_4 : l0_4.length ≤ c0_4) (h : xH.f k a0_0 a0_1 a0_2 a0_3 l0_4 = some (r1, r2, r3, r4)) :
  Calls Try.prog 107 #[.agg #[.int .i64 a0_0, .int .i64 a0_1, .int .i64 a0_2, .int .i64 a0_3, .slice A0_4 l0_4.length c0_4]] w fun e w' => e = .returned (.tuple #[.agg #[.int .i64 r1, .int .i64 r2, .int .i64 r3], .int .i64 r4]) ∧ Below w.heap.size w w' := by
 have hu30 := Try.underlying30
 have hu28 := Try.underlying28
 have HR0_4 := zC.mk hr0_4
 have HC0_4 := zC.mk hc0_4
 clear hr0_4 hc0_4
 have HB := zC.mk (Below.refl w.heap.size w)
 have H : ((xO.f a0_0 a0_1 a0_2 a0_3 l0_4).bind fun t1578 => (if t1578 = true then (if a0_0 = 0 then ((yG.f k a0_0 a0_1 a0_2 a0_3 l0_4).bind fun bt1579 => (some (bt1579.1, bt1579.2.1, bt1579.2.2, 0))) else (some (0, 0, 0, 1))) else (some (0, 0, 0, 1)))) = some (r1, r2, r3, r4) := h
 clear h
 replace H := Option.bind_eq_some_iff.mp H
 obtain ⟨t1578, A20, H⟩ := H
 replace H : (if t1578 = true then (if a0_0 = 0 then ((yG.f k a0_0 a0_1 a0_2 a0_3 l0_4).bind fun bt1579 => (some (bt1579.1, bt1579.2.1, bt1579.2.2, 0))) else (some (0, 0, 0, 1))) else (some (0, 0, 0, 1))) = some (r1, r2, r3, r4) := H
 have A2 := zC.mk A20
 clear A20
 by_cases c3 : t1578 = true
 ·
  subst c3
  have H1 : (if a0_0 = 0 then ((yG.f k a0_0 a0_1 a0_2 a0_3 l0_4).bind fun bt1579 => (some (bt1579.1, bt1579.2.1, bt1579.2.2, 0))) else (some (0, 0, 0, 1))) = some (r1, r2, r3, r4) := by rw [if_pos rfl] at H; exact H
  clear H
  have H := H1
  clear H1
  have HX4 := zC.mk H
  clear H
  go_enter Try.func107, Try.ntmps107
  go_upto_if 11 with (first | ((with_reducible refine zP (N := 1) rfl ?_); refine zO ?hg (N := 1) ?hd (cs := #[.int .i64 a0_0, .int .i64 a0_1, .int .i64 a0_2, .int .i64 a0_3, .slice A0_4 l0_4.length c0_4]) (t := 30) ?hr ?_; (case hd => rfl); (case hg => rfl); (case hr => first | (go_simp; done) | (go_simp; rfl)); intro gb1576 hg w5 hbox hb; have n0_ := zC.mk (zL (by repeat (first | (with_reducible first | exact HB.out | apply zG | apply zA | apply zF) | exact HB.out)) hb); have n1_ := zC.mk (hbox); have n2_ := zC.mk ((by rw [hg]; exact (zM (by repeat (first | (with_reducible first | exact HB.out | apply zG | apply zA | apply zF) | exact HB.out))) : w.heap.size ≤ gb1576)); have n3_ := n2_; clear HB; have HB := n0_; have BK1576 := n1_; have GW1576 := n2_; have GE1576 := n3_; clear n0_ n1_ n2_ n3_; clear hb hbox hg) | ((with_reducible refine zP (N := 2) rfl ?_); refine zO ?hg (N := 2) ?hd (cs := #[.int .i64 0, .int .i64 0, .int .i64 0]) (t := 28) ?hr ?_; (case hd => rfl); (case hg => rfl); (case hr => first | (go_simp; done) | (go_simp; rfl)); intro gb1577 hg w6 hbox hb; have n0_ := zC.mk (zK (g := gb1576) (o := .cells #[.int .i64 a0_0, .int .i64 a0_1, .int .i64 a0_2, .int .i64 a0_3, .slice A0_4 l0_4.length c0_4] 30 (0, 0)) (by (with_reducible repeat (first | refine zE ?_ _ | refine zI ?_ | refine zD ?_ _)); exact BK1576.out) hb); have n1_ := zC.mk (zL (by repeat (first | (with_reducible first | exact HB.out | apply zG | apply zA | apply zF | refine zH ?_ GE1576.out) | exact HB.out)) hb); have n2_ := zC.mk (hbox); have n3_ := zC.mk ((by rw [hg]; exact (zM (by repeat (first | (with_reducible first | exact HB.out | apply zG | apply zA | apply zF | refine zH ?_ GE1576.out) | exact HB.out))) : w.heap.size ≤ gb1577)); have n4_ := n3_; have n5_ := zC.mk ((by rw [hg]; exact Nat.ne_of_lt (zX (by (with_reducible repeat (first | refine zE ?_ _ | refine zI ?_ | refine zD ?_ _)); exact BK1576.out)) : gb1576 ≠ gb1577)); have n6_ := zC.mk n5_.out.symm; clear BK1576; clear HB; have BK1576 := n0_; have HB := n1_; have BK1577 := n2_; have GW1577 := n3_; have GE1577 := n4_; have NB1576_1577 := n5_; have NB1577_1576 := n6_; clear n0_ n1_ n2_ n3_ n4_ n5_ n6_; clear hb hbox hg; have hnb7 := NB1576_1577.out; have hnc7 := NB1577_1576.out; have hcz8_0 : w6.cell? ⟨gb1576, 0, none⟩ = some (.int .i64 a0_0) := zB BK1576.out 0; have hcz8_1 : w6.cell? ⟨gb1576, 1, none⟩ = some (.int .i64 a0_1) := zB BK1576.out 1; have hcz8_2 : w6.cell? ⟨gb1576, 2, none⟩ = some (.int .i64 a0_2) := zB BK1576.out 2; have hcz8_3 : w6.cell? ⟨gb1576, 3, none⟩ = some (.int .i64 a0_3) := zB BK1576.out 3; have hcz8_4 : w6.cell? ⟨gb1576, 4, none⟩ = some (.slice A0_4 l0_4.length c0_4) := zB BK1576.out 4; have hfz8_0 := zJ BK1576.out 0; have hfz8_1 := zJ BK1576.out 1; have hfz8_2 := zJ BK1576.out 2; have hfz8_3 := zJ BK1576.out 3; have hfz8_4 := zJ BK1576.out 4) | ((with_reducible refine zS (f := 64) rfl ?_); refine zZ (some 5) rfl rfl Try.func64 (by kernel_rfl) rfl #[.agg #[.int .i64 a0_0, .int .i64 a0_1, .int .i64 a0_2, .int .i64 a0_3, .slice A0_4 l0_4.length c0_4]] rfl (by (try simp only [List.map_toArray, List.map_cons, List.map_nil]); first | done | rfl) ?_; (with_reducible refine (xO.calls a0_0 a0_1 a0_2 a0_3 _ _ l0_4 true _ ?side1 ?side2 A2.out).mono ?_); (case side1 => repeat (first | exact (Kd.C_below HR0_4.out HB.out) | (with_reducible refine Kd.C_alloc ?_ _) | (with_reducible refine Kd.C_drewN ?_ _) | (with_reducible refine Kd.C_drew ?_))); (case side2 => exact HC0_4.out); rintro e w9 ⟨rfl, hb⟩; refine ⟨_, rfl, ?_⟩; have n0_ := zC.mk (zK (g := gb1576) (o := .cells #[.int .i64 a0_0, .int .i64 a0_1, .int .i64 a0_2, .int .i64 a0_3, .slice A0_4 l0_4.length c0_4] 30 (0, 0)) (by (with_reducible repeat (first | refine zE ?_ _ | refine zI ?_ | refine zD ?_ _)); exact BK1576.out) hb); have n1_ := zC.mk (zK (g := gb1577) (o := .cells #[.int .i64 0, .int .i64 0, .int .i64 0] 28 (0, 0)) (by (with_reducible repeat (first | refine zE ?_ _ | refine zI ?_ | refine zD ?_ _)); exact BK1577.out) hb); have n2_ := zC.mk (zL (by repeat (first | (with_reducible first | exact HB.out | apply zG | apply zA | apply zF | refine zH ?_ GE1576.out | refine zH ?_ GE1577.out) | exact HB.out)) hb); clear BK1576; clear BK1577; clear HB; have BK1576 := n0_; have BK1577 := n1_; have HB := n2_; clear n0_ n1_ n2_; (try clear hb); have hcz10_0 : w9.cell? ⟨gb1576, 0, none⟩ = some (.int .i64 a0_0) := zB BK1576.out 0; have hcz10_1 : w9.cell? ⟨gb1576, 1, none⟩ = some (.int .i64 a0_1) := zB BK1576.out 1; have hcz10_2 : w9.cell? ⟨gb1576, 2, none⟩ = some (.int .i64 a0_2) := zB BK1576.out 2; have hcz10_3 : w9.cell? ⟨gb1576, 3, none⟩ = some (.int .i64 a0_3) := zB BK1576.out 3; have hcz10_4 : w9.cell? ⟨gb1576, 4, none⟩ = some (.slice A0_4 l0_4.length c0_4) := zB BK1576.out 4; have hfz10_0 := zJ BK1576.out 0; have hfz10_1 := zJ BK1576.out 1; have hfz10_2 := zJ BK1576.out 2; have hfz10_3 := zJ BK1576.out 3; have hfz10_4 := zJ BK1576.out 4))
  have H := HX4.out
  clear HX4
  by_cases c11 : a0_0 = 0
  ·
   rw [if_pos c11] at H
   have c11b0 : (a0_0 == 0) = true := beq_iff_eq.mpr c11
   have c11b1 : (a0_0 != 0) = false := bne_eq_false_iff_eq.mpr c11
   clear c11
   (first | rw [c11b0] | (simp only [zQ, zR]; rw [c11b0]) | skip)
   replace H := Option.bind_eq_some_iff.mp H
   obtain ⟨⟨t1579, t1580, t1581⟩, A120, H⟩ := H
   replace H : (some (t1579, t1580, t1581, 0)) = some (r1, r2, r3, r4) := H
   have A12 := zC.mk A120
   clear A120
   simp only [Option.some.injEq, Prod.mk.injEq] at H
   obtain ⟨rfl, rfl, rfl, rfl⟩ := H
   have hnb13 := NB1576_1577.out
   have hnc13 := NB1577_1576.out
   have hcz14_0 : w9.cell? ⟨gb1576, 0, none⟩ = some (.int .i64 a0_0) := zB BK1576.out 0
   have hcz14_1 : w9.cell? ⟨gb1576, 1, none⟩ = some (.int .i64 a0_1) := zB BK1576.out 1
   have hcz14_2 : w9.cell? ⟨gb1576, 2, none⟩ = some (.int .i64 a0_2) := zB BK1576.out 2
   have hcz14_3 : w9.cell? ⟨gb1576, 3, none⟩ = some (.int .i64 a0_3) := zB BK1576.out 3
   have hcz14_4 : w9.cell? ⟨gb1576, 4, none⟩ = some (.slice A0_4 l0_4.length c0_4) := zB BK1576.out 4
   have hfz14_0 := zJ BK1576.out 0
   have hfz14_1 := zJ BK1576.out 1
   have hfz14_2 := zJ BK1576.out 2
   have hfz14_3 := zJ BK1576.out 3
   have hfz14_4 := zJ BK1576.out 4
   go_wp2_with (first | ((with_reducible refine zS (f := 149) rfl ?_); refine zZ (some 14) rfl rfl Try.func149 (by kernel_rfl) rfl #[.agg #[.int .i64 a0_0, .int .i64 a0_1, .int .i64 a0_2, .int .i64 a0_3, .slice A0_4 l0_4.length c0_4]] rfl (by (try simp only [List.map_toArray, List.map_cons, List.map_nil]); first | done | rfl) ?_; (with_reducible refine (yG.calls k a0_0 a0_1 a0_2 a0_3 _ _ l0_4 t1579 t1580 t1581 _ ?side1 ?side2 A12.out).mono ?_); (case side1 => repeat (first | exact (Kd.C_below HR0_4.out HB.out) | (with_reducible refine Kd.C_alloc ?_ _) | (with_reducible refine Kd.C_drewN ?_ _) | (with_reducible refine Kd.C_drew ?_))); (case side2 => exact HC0_4.out); rintro e w15 ⟨rfl, hb⟩; refine ⟨_, rfl, ?_⟩; have n0_ := zC.mk (zK (g := gb1576) (o := .cells #[.int .i64 a0_0, .int .i64 a0_1, .int .i64 a0_2, .int .i64 a0_3, .slice A0_4 l0_4.length c0_4] 30 (0, 0)) (by (with_reducible repeat (first | refine zE ?_ _ | refine zI ?_ | refine zD ?_ _)); exact BK1576.out) hb); have n1_ := zC.mk (zK (g := gb1577) (o := .cells #[.int .i64 0, .int .i64 0, .int .i64 0] 28 (0, 0)) (by (with_reducible repeat (first | refine zE ?_ _ | refine zI ?_ | refine zD ?_ _)); exact BK1577.out) hb); have n2_ := zC.mk (zL (by repeat (first | (with_reducible first | exact HB.out | apply zG | apply zA | apply zF | refine zH ?_ GE1576.out | refine zH ?_ GE1577.out) | exact HB.out)) hb); clear BK1576; clear BK1577; clear HB; have BK1576 := n0_; have BK1577 := n1_; have HB := n2_; clear n0_ n1_ n2_; (try clear hb); have hcz16_0 : w15.cell? ⟨gb1577, 0, none⟩ = some (.int .i64 0) := zB BK1577.out 0; have hcz16_1 : w15.cell? ⟨gb1577, 1, none⟩ = some (.int .i64 0) := zB BK1577.out 1; have hcz16_2 : w15.cell? ⟨gb1577, 2, none⟩ = some (.int .i64 0) := zB BK1577.out 2; have hfz16_0 := zJ BK1577.out 0; have hfz16_1 := zJ BK1577.out 1; have hfz16_2 := zJ BK1577.out 2))
   refine bodyPost_ret (results_ct rfl _ _ gb1577 28 #[.int .i64 t1579, .int .i64 t1580, .int .i64 t1581] (0, 0) _ rfl (by (with_reducible repeat (first | refine zE ?_ _ | refine zI ?_ | refine zD ?_ _)); refine zU (cs := #[.int .i64 t1579, .int .i64 t1580, .int .i64 0]) ?_ 2 _ rfl; (with_reducible repeat (first | refine zE ?_ _ | refine zI ?_ | refine zD ?_ _)); refine zU (cs := #[.int .i64 t1579, .int .i64 0, .int .i64 0]) ?_ 1 _ rfl; (with_reducible repeat (first | refine zE ?_ _ | refine zI ?_ | refine zD ?_ _)); refine zU (cs := #[.int .i64 0, .int .i64 0, .int .i64 0]) ?_ 0 _ rfl; (with_reducible repeat (first | refine zE ?_ _ | refine zI ?_ | refine zD ?_ _)); exact BK1577.out) Try.underlying28 rfl (by kernel_rfl)) rfl ?_
   exact ⟨by first | rfl | (simp [*, errW_none, errW_some] <;> rfl), by repeat (first | (with_reducible first | exact HB.out | apply zG | apply zA | apply zF | refine zH ?_ GE1576.out | refine zH ?_ GE1577.out) | exact HB.out)⟩
  ·
   rw [if_neg c11] at H
   have c11b0 : (a0_0 == 0) = false := beq_eq_false_iff_ne.mpr c11
   have c11b1 : (a0_0 != 0) = true := bne_iff_ne.mpr c11
   (first | rw [c11b0] | (simp only [zQ, zR]; rw [c11b0]) | skip)
   simp only [Option.some.injEq, Prod.mk.injEq] at H
   obtain ⟨rfl, rfl, rfl, rfl⟩ := H
   have hnb17 := NB1577_1576.out
   have hnc17 := NB1576_1577.out
   have hcz18_0 : w9.cell? ⟨gb1577, 0, none⟩ = some (.int .i64 0) := zB BK1577.out 0
   have hcz18_1 : w9.cell? ⟨gb1577, 1, none⟩ = some (.int .i64 0) := zB BK1577.out 1
   have hcz18_2 : w9.cell? ⟨gb1577, 2, none⟩ = some (.int .i64 0) := zB BK1577.out 2
   have hfz18_0 := zJ BK1577.out 0
   have hfz18_1 := zJ BK1577.out 1
   have hfz18_2 := zJ BK1577.out 2
   go_wp2
   refine bodyPost_ret (results_ct rfl _ _ gb1577 28 #[.int .i64 0, .int .i64 0, .int .i64 0] (0, 0) _ rfl (by (with_reducible repeat (first | refine zE ?_ _ | refine zI ?_ | refine zD ?_ _)); refine zU (cs := #[.int .i64 0, .int .i64 0, .int .i64 0]) ?_ 2 _ rfl; (with_reducible repeat (first | refine zE ?_ _ | refine zI ?_ | refine zD ?_ _)); refine zU (cs := #[.int .i64 0, .int .i64 0, .int .i64 0]) ?_ 1 _ rfl; (with_reducible repeat (first | refine zE ?_ _ | refine zI ?_ | refine zD ?_ _)); refine zU (cs := #[.int .i64 0, .int .i64 0, .int .i64 0]) ?_ 0 _ rfl; (with_reducible repeat (first | refine zE ?_ _ | refine zI ?_ | refine zD ?_ _)); exact BK1577.out) Try.underlying28 rfl (by kernel_rfl)) rfl ?_
   exact ⟨by first | rfl | (simp [*, errW_none, errW_some] <;> rfl), by repeat (first | (with_reducible first | exact HB.out | apply zG | apply zA | apply zF | refine zH ?_ GE1576.out | refine zH ?_ GE1577.out) | exact HB.out)⟩
 ·
  replace c3 := Bool.eq_false_iff.mpr c3
  subst c3
  have H1 : (some (0, 0, 0, 1)) = some (r1, r2, r3, r4) := by rw [if_neg (show ¬ (false = true) by decide)] at H; exact H
  clear H
  have H := H1
  clear H1
  simp only [Option.some.injEq, Prod.mk.injEq] at H
  obtain ⟨rfl, rfl, rfl, rfl⟩ := H
  go_enter Try.func107, Try.ntmps107
  go_wp2_with (first | ((with_reducible refine zP (N := 1) rfl ?_); refine zO ?hg (N := 1) ?hd (cs := #[.int .i64 a0_0, .int .i64 a0_1, .int .i64 a0_2, .int .i64 a0_3, .slice A0_4 l0_4.length c0_4]) (t := 30) ?hr ?_; (case hd => rfl); (case hg => rfl); (case hr => first | (go_simp; done) | (go_simp; rfl)); intro gb1576 hg w19 hbox hb; have n0_ := zC.mk (zL (by repeat (first | (with_reducible first | exact HB.out | apply zG | apply zA | apply zF) | exact HB.out)) hb); have n1_ := zC.mk (hbox); have n2_ := zC.mk ((by rw [hg]; exact (zM (by repeat (first | (with_reducible first | exact HB.out | apply zG | apply zA | apply zF) | exact HB.out))) : w.heap.size ≤ gb1576)); have n3_ := n2_; clear HB; have HB := n0_; have BK1576 := n1_; have GW1576 := n2_; have GE1576 := n3_; clear n0_ n1_ n2_ n3_; clear hb hbox hg) | ((with_reducible refine zP (N := 2) rfl ?_); refine zO ?hg (N := 2) ?hd (cs := #[.int .i64 0, .int .i64 0, .int .i64 0]) (t := 28) ?hr ?_; (case hd => rfl); (case hg => rfl); (case hr => first | (go_simp; done) | (go_simp; rfl)); intro gb1577 hg w20 hbox hb; have n0_ := zC.mk (zK (g := gb1576) (o := .cells #[.int .i64 a0_0, .int .i64 a0_1, .int .i64 a0_2, .int .i64 a0_3, .slice A0_4 l0_4.length c0_4] 30 (0, 0)) (by (with_reducible repeat (first | refine zE ?_ _ | refine zI ?_ | refine zD ?_ _)); exact BK1576.out) hb); have n1_ := zC.mk (zL (by repeat (first | (with_reducible first | exact HB.out | apply zG | apply zA | apply zF | refine zH ?_ GE1576.out) | exact HB.out)) hb); have n2_ := zC.mk (hbox); have n3_ := zC.mk ((by rw [hg]; exact (zM (by repeat (first | (with_reducible first | exact HB.out | apply zG | apply zA | apply zF | refine zH ?_ GE1576.out) | exact HB.out))) : w.heap.size ≤ gb1577)); have n4_ := n3_; have n5_ := zC.mk ((by rw [hg]; exact Nat.ne_of_lt (zX (by (with_reducible repeat (first | refine zE ?_ _ | refine zI ?_ | refine zD ?_ _)); exact BK1576.out)) : gb1576 ≠ gb1577)); have n6_ := zC.mk n5_.out.symm; clear BK1576; clear HB; have BK1576 := n0_; have HB := n1_; have BK1577 := n2_; have GW1577 := n3_; have GE1577 := n4_; have NB1576_1577 := n5_; have NB1577_1576 := n6_; clear n0_ n1_ n2_ n3_ n4_ n5_ n6_; clear hb hbox hg; have hnb21 := NB1576_1577.out; have hnc21 := NB1577_1576.out; have hcz22_0 : w20.cell? ⟨gb1576, 0, none⟩ = some (.int .i64 a0_0) := zB BK1576.out 0; have hcz22_1 : w20.cell? ⟨gb1576, 1, none⟩ = some (.int .i64 a0_1) := zB BK1576.out 1; have hcz22_2 : w20.cell? ⟨gb1576, 2, none⟩ = some (.int .i64 a0_2) := zB BK1576.out 2; have hcz22_3 : w20.cell? ⟨gb1576, 3, none⟩ = some (.int .i64 a0_3) := zB BK1576.out 3; have hcz22_4 : w20.cell? ⟨gb1576, 4, none⟩ = some (.slice A0_4 l0_4.length c0_4) := zB BK1576.out 4; have hfz22_0 := zJ BK1576.out 0; have hfz22_1 := zJ BK1576.out 1; have hfz22_2 := zJ BK1576.out 2; have hfz22_3 := zJ BK1576.out 3; have hfz22_4 := zJ BK1576.out 4) | ((with_reducible refine zS (f := 64) rfl ?_); refine zZ (some 5) rfl rfl Try.func64 (by kernel_rfl) rfl #[.agg #[.int .i64 a0_0, .int .i64 a0_1, .int .i64 a0_2, .int .i64 a0_3, .slice A0_4 l0_4.length c0_4]] rfl (by (try simp only [List.map_toArray, List.map_cons, List.map_nil]); first | done | rfl) ?_; (with_reducible refine (xO.calls a0_0 a0_1 a0_2 a0_3 _ _ l0_4 false _ ?side1 ?side2 A2.out).mono ?_); (case side1 => repeat (first | exact (Kd.C_below HR0_4.out HB.out) | (with_reducible refine Kd.C_alloc ?_ _) | (with_reducible refine Kd.C_drewN ?_ _) | (with_reducible refine Kd.C_drew ?_))); (case side2 => exact HC0_4.out); rintro e w23 ⟨rfl, hb⟩; refine ⟨_, rfl, ?_⟩; have n0_ := zC.mk (zK (g := gb1576) (o := .cells #[.int .i64 a0_0, .int .i64 a0_1, .int .i64 a0_2, .int .i64 a0_3, .slice A0_4 l0_4.length c0_4] 30 (0, 0)) (by (with_reducible repeat (first | refine zE ?_ _ | refine zI ?_ | refine zD ?_ _)); exact BK1576.out) hb); have n1_ := zC.mk (zK (g := gb1577) (o := .cells #[.int .i64 0, .int .i64 0, .int .i64 0] 28 (0, 0)) (by (with_reducible repeat (first | refine zE ?_ _ | refine zI ?_ | refine zD ?_ _)); exact BK1577.out) hb); have n2_ := zC.mk (zL (by repeat (first | (with_reducible first | exact HB.out | apply zG | apply zA | apply zF | refine zH ?_ GE1576.out | refine zH ?_ GE1577.out) | exact HB.out)) hb); clear BK1576; clear BK1577; clear HB; have BK1576 := n0_; have BK1577 := n1_; have HB := n2_; clear n0_ n1_ n2_; (try clear hb); have hcz24_0 : w23.cell? ⟨gb1577, 0, none⟩ = some (.int .i64 0) := zB BK1577.out 0; have hcz24_1 : w23.cell? ⟨gb1577, 1, none⟩ = some (.int .i64 0) := zB BK1577.out 1; have hcz24_2 : w23.cell? ⟨gb1577, 2, none⟩ = some (.int .i64 0) := zB BK1577.out 2; have hfz24_0 := zJ BK1577.out 0; have hfz24_1 := zJ BK1577.out 1; have hfz24_2 := zJ BK1577.out 2))
  refine bodyPost_ret (results_ct rfl _ _ gb1577 28 #[.int .i64 0, .int .i64 0, .int .i64 0] (0, 0) _ rfl (by (with_reducible repeat (first | refine zE ?_ _ | refine zI ?_ | refine zD ?_ _)); refine zU (cs := #[.int .i64 0, .int .i64 0, .int .i64 0]) ?_ 2 _ rfl; (with_reducible repeat (first | refine zE ?_ _ | refine zI ?_ | refine zD ?_ _)); refine zU (cs := #[.int .i64 0, .int .i64 0, .int .i64 0]) ?_ 1 _ rfl; (with_reducible repeat (first | refine zE ?_ _ | refine zI ?_ | refine zD ?_ _)); refine zU (cs := #[.int .i64 0, .int .i64 0, .int .i64 0]) ?_ 0 _ rfl; (with_reducible repeat (first | refine zE ?_ _ | refine zI ?_ | refine zD ?_ _)); exact BK1577.out) Try.underlying28 rfl (by kernel_rfl)) rfl ?_
  exact ⟨by first | rfl | (simp [*, errW_none, errW_some] <;> rfl), by repeat (first | (with_reducible first | exact HB.out | apply zG | apply zA | apply zF | refine zH ?_ GE1576.out | refine zH ?_ GE1577.out) | exact HB.out)⟩
attribute [local go_sem high] eqA38
theorem xY.calls (a0_0 : Int) (a0_1 : Int) (a0_2 : Int) (a1_0 : Int) (a1_1 : Int) (r : Bool) (w : World) (h : xY.f a0_0 a0_1 a0_2 a1_0 a1_1 = some r) :
  Calls Try.prog 155 #[.agg #[.int .i64 a0_0, .int .i64 a0_1, .int .i64 a0_2], .agg #[.int .i64 a1_0, .int .i64 a1_1]] w fun e w' => e = .returned (.bool r) ∧ Below w.heap.size w w' := by
 have hu28 := Try.underlying28
 have hu38 := Try.underlying38
 have HB := zC.mk (Below.refl w.heap.size w)
 have H : ((xN.f a0_0 a0_1 a0_2 a1_0 a1_1).bind fun bt1584 => (some (bt1584.1 == 0 && (bt1584.2 == 0)))) = some r := h
 clear h
 replace H := Option.bind_eq_some_iff.mp H
 obtain ⟨⟨t1584, t1585⟩, A30, H⟩ := H
 replace H : (some (t1584 == 0 && (t1585 == 0))) = some r := H
 have A3 := zC.mk A30
 clear A30
 obtain rfl := Option.some.inj H
 go_enter Try.func155, Try.ntmps155
 go_wp2_with (first | ((with_reducible refine zP (N := 2) rfl ?_); refine zO ?hg (N := 2) ?hd (cs := #[.int .i64 a0_0, .int .i64 a0_1, .int .i64 a0_2]) (t := 28) ?hr ?_; (case hd => rfl); (case hg => rfl); (case hr => first | (go_simp; done) | (go_simp; rfl)); intro gb1582 hg w4 hbox hb; have n0_ := zC.mk (zL (by repeat (first | (with_reducible first | exact HB.out | apply zG | apply zA | apply zF) | exact HB.out)) hb); have n1_ := zC.mk (hbox); have n2_ := zC.mk ((by rw [hg]; exact (zM (by repeat (first | (with_reducible first | exact HB.out | apply zG | apply zA | apply zF) | exact HB.out))) : w.heap.size ≤ gb1582)); have n3_ := n2_; clear HB; have HB := n0_; have BK1582 := n1_; have GW1582 := n2_; have GE1582 := n3_; clear n0_ n1_ n2_ n3_; clear hb hbox hg) | ((with_reducible refine zP (N := 3) rfl ?_); refine zO ?hg (N := 3) ?hd (cs := #[.int .i64 a1_0, .int .i64 a1_1]) (t := 38) ?hr ?_; (case hd => rfl); (case hg => rfl); (case hr => first | (go_simp; done) | (go_simp; rfl)); intro gb1583 hg w5 hbox hb; have n0_ := zC.mk (zK (g := gb1582) (o := .cells #[.int .i64 a0_0, .int .i64 a0_1, .int .i64 a0_2] 28 (0, 0)) (by (with_reducible repeat (first | refine zE ?_ _ | refine zI ?_ | refine zD ?_ _)); exact BK1582.out) hb); have n1_ := zC.mk (zL (by repeat (first | (with_reducible first | exact HB.out | apply zG | apply zA | apply zF | refine zH ?_ GE1582.out) | exact HB.out)) hb); have n2_ := zC.mk (hbox); have n3_ := zC.mk ((by rw [hg]; exact (zM (by repeat (first | (with_reducible first | exact HB.out | apply zG | apply zA | apply zF | refine zH ?_ GE1582.out) | exact HB.out))) : w.heap.size ≤ gb1583)); have n4_ := n3_; have n5_ := zC.mk ((by rw [hg]; exact Nat.ne_of_lt (zX (by (with_reducible repeat (first | refine zE ?_ _ | refine zI ?_ | refine zD ?_ _)); exact BK1582.out)) : gb1582 ≠ gb1583)); have n6_ := zC.mk n5_.out.symm; clear BK1582; clear HB; have BK1582 := n0_; have HB := n1_; have BK1583 := n2_; have GW1583 := n3_; have GE1583 := n4_; have NB1582_1583 := n5_; have NB1583_1582 := n6_; clear n0_ n1_ n2_ n3_ n4_ n5_ n6_; clear hb hbox hg; have hnb6 := NB1582_1583.out; have hnc6 := NB1583_1582.out; have hcz7_0 : w5.cell? ⟨gb1582, 0, none⟩ = some (.int .i64 a0_0) := zB BK1582.out 0; have hcz7_1 : w5.cell? ⟨gb1582, 1, none⟩ = some (.int .i64 a0_1) := zB BK1582.out 1; have hcz7_2 : w5.cell? ⟨gb1582, 2, none⟩ = some (.int .i64 a0_2) := zB BK1582.out 2; have hfz7_0 := zJ BK1582.out 0; have hfz7_1 := zJ BK1582.out 1; have hfz7_2 := zJ BK1582.out 2; have hcz8_0 : w5.cell? ⟨gb1583, 0, none⟩ = some (.int .i64 a1_0) := zB BK1583.out 0; have hcz8_1 : w5.cell? ⟨gb1583, 1, none⟩ = some (.int .i64 a1_1) := zB BK1583.out 1; have hfz8_0 := zJ BK1583.out 0; have hfz8_1 := zJ BK1583.out 1) | ((with_reducible refine zS (f := 124) rfl ?_); refine zZ (some 7) rfl rfl Try.func124 (by kernel_rfl) rfl #[.agg #[.int .i64 a0_0, .int .i64 a0_1, .int .i64 a0_2], .agg #[.int .i64 a1_0, .int .i64 a1_1]] rfl (by (try simp only [List.map_toArray, List.map_cons, List.map_nil]); first | done | rfl) ?_; (with_reducible refine (xN.calls a0_0 a0_1 a0_2 a1_0 a1_1 t1584 t1585 _ A3.out).mono ?_); rintro e w9 ⟨rfl, hb⟩; refine ⟨_, rfl, ?_⟩; have n0_ := zC.mk (zK (g := gb1582) (o := .cells #[.int .i64 a0_0, .int .i64 a0_1, .int .i64 a0_2] 28 (0, 0)) (by (with_reducible repeat (first | refine zE ?_ _ | refine zI ?_ | refine zD ?_ _)); exact BK1582.out) hb); have n1_ := zC.mk (zK (g := gb1583) (o := .cells #[.int .i64 a1_0, .int .i64 a1_1] 38 (0, 0)) (by (with_reducible repeat (first | refine zE ?_ _ | refine zI ?_ | refine zD ?_ _)); exact BK1583.out) hb); have n2_ := zC.mk (zL (by repeat (first | (with_reducible first | exact HB.out | apply zG | apply zA | apply zF | refine zH ?_ GE1582.out | refine zH ?_ GE1583.out) | exact HB.out)) hb); clear BK1582; clear BK1583; clear HB; have BK1582 := n0_; have BK1583 := n1_; have HB := n2_; clear n0_ n1_ n2_; (try clear hb)))
 go_ret
 exact ⟨by first | rfl | (simp [*, errW_none, errW_some] <;> rfl), by repeat (first | (with_reducible first | exact HB.out | apply zG | apply zA | apply zF | refine zH ?_ GE1582.out | refine zH ?_ GE1583.out) | exact HB.out)⟩
theorem yK.calls (k : Nat) (a0_0 : Int) (a0_1 : Int) (a0_2 : Int) (a1_0 : Int) (a1_1 : Int) (r1 : Int) (r2 : Int) (w : World) (h : yK.f k a0_0 a0_1 a0_2 a1_0 a1_1 = some (r1, r2)) :
  Calls Try.prog 154 #[.agg #[.int .i64 a0_0, .int .i64 a0_1, .int .i64 a0_2], .agg #[.int .i64 a1_0, .int .i64 a1_1]] w fun e w' => e = .returned (.agg #[.int .i64 r1, .int .i64 r2]) ∧ Below w.heap.size w w' := by
 have hu28 := Try.underlying28
 have hu38 := Try.underlying38
 have HB := zC.mk (Below.refl w.heap.size w)
 have H : (yK.l0 k a0_0 a0_1 a0_2 a1_0 a1_1 a1_0 a1_1) = some (r1, r2) := h
 clear h
 have H' := zC.mk H
 clear H
 go_enter Try.func154, Try.ntmps154
 go_wp2_with (first | ((with_reducible refine zP (N := 2) rfl ?_); refine zO ?hg (N := 2) ?hd (cs := #[.int .i64 a0_0, .int .i64 a0_1, .int .i64 a0_2]) (t := 28) ?hr ?_; (case hd => rfl); (case hg => rfl); (case hr => first | (go_simp; done) | (go_simp; rfl)); intro gb1586 hg w3 hbox hb; have n0_ := zC.mk (zL (by repeat (first | (with_reducible first | exact HB.out | apply zG | apply zA | apply zF) | exact HB.out)) hb); have n1_ := zC.mk (hbox); have n2_ := zC.mk ((by rw [hg]; exact (zM (by repeat (first | (with_reducible first | exact HB.out | apply zG | apply zA | apply zF) | exact HB.out))) : w.heap.size ≤ gb1586)); have n3_ := n2_; clear HB; have HB := n0_; have BK1586 := n1_; have GW1586 := n2_; have GE1586 := n3_; clear n0_ n1_ n2_ n3_; clear hb hbox hg) | ((with_reducible refine zP (N := 3) rfl ?_); refine zO ?hg (N := 3) ?hd (cs := #[.int .i64 a1_0, .int .i64 a1_1]) (t := 38) ?hr ?_; (case hd => rfl); (case hg => rfl); (case hr => first | (go_simp; done) | (go_simp; rfl)); intro gb1587 hg w4 hbox hb; have n0_ := zC.mk (zK (g := gb1586) (o := .cells #[.int .i64 a0_0, .int .i64 a0_1, .int .i64 a0_2] 28 (0, 0)) (by (with_reducible repeat (first | refine zE ?_ _ | refine zI ?_ | refine zD ?_ _)); exact BK1586.out) hb); have n1_ := zC.mk (zL (by repeat (first | (with_reducible first | exact HB.out | apply zG | apply zA | apply zF | refine zH ?_ GE1586.out) | exact HB.out)) hb); have n2_ := zC.mk (hbox); have n3_ := zC.mk ((by rw [hg]; exact (zM (by repeat (first | (with_reducible first | exact HB.out | apply zG | apply zA | apply zF | refine zH ?_ GE1586.out) | exact HB.out))) : w.heap.size ≤ gb1587)); have n4_ := n3_; have n5_ := zC.mk ((by rw [hg]; exact Nat.ne_of_lt (zX (by (with_reducible repeat (first | refine zE ?_ _ | refine zI ?_ | refine zD ?_ _)); exact BK1586.out)) : gb1586 ≠ gb1587)); have n6_ := zC.mk n5_.out.symm; clear BK1586; clear HB; have BK1586 := n0_; have HB := n1_; have BK1587 := n2_; have GW1587 := n3_; have GE1587 := n4_; have NB1586_1587 := n5_; have NB1587_1586 := n6_; clear n0_ n1_ n2_ n3_ n4_ n5_ n6_; clear hb hbox hg) | ((with_reducible refine zP (N := 4) rfl ?_); refine zO ?hg (N := 4) ?hd (cs := #[.int .i64 0, .int .i64 0]) (t := 38) ?hr ?_; (case hd => rfl); (case hg => rfl); (case hr => first | (go_simp; done) | (go_simp; rfl)); intro gb1588 hg w5 hbox hb; have n0_ := zC.mk (zK (g := gb1586) (o := .cells #[.int .i64 a0_0, .int .i64 a0_1, .int .i64 a0_2] 28 (0, 0)) (by (with_reducible repeat (first | refine zE ?_ _ | refine zI ?_ | refine zD ?_ _)); exact BK1586.out) hb); have n1_ := zC.mk (zK (g := gb1587) (o := .cells #[.int .i64 a1_0, .int .i64 a1_1] 38 (0, 0)) (by (with_reducible repeat (first | refine zE ?_ _ | refine zI ?_ | refine zD ?_ _)); exact BK1587.out) hb); have n2_ := zC.mk (zL (by repeat (first | (with_reducible first | exact HB.out | apply zG | apply zA | apply zF | refine zH ?_ GE1586.out | refine zH ?_ GE1587.out) | exact HB.out)) hb); have n3_ := zC.mk (hbox); have n4_ := zC.mk ((by rw [hg]; exact (zM (by repeat (first | (with_reducible first | exact HB.out | apply zG | apply zA | apply zF | refine zH ?_ GE1586.out | refine zH ?_ GE1587.out) | exact HB.out))) : w.heap.size ≤ gb1588)); have n5_ := n4_; have n6_ := zC.mk ((by rw [hg]; exact Nat.ne_of_lt (zX (by (with_reducible repeat (first | refine zE ?_ _ | refine zI ?_ | refine zD ?_ _)); exact BK1586.out)) : gb1586 ≠ gb1588)); have n7_ := zC.mk n6_.out.symm; have n8_ := zC.mk ((by rw [hg]; exact Nat.ne_of_lt (zX (by (with_reducible repeat (first | refine zE ?_ _ | refine zI ?_ | refine zD ?_ _)); exact BK1587.out)) : gb1587 ≠ gb1588)); have n9_ := zC.mk n8_.out.symm; clear BK1586; clear BK1587; clear HB; have BK1586 := n0_; have BK1587 := n1_; have HB := n2_; have BK1588 := n3_; have GW1588 := n4_; have GE1588 := n5_; have NB1586_1588 := n6_; have NB1588_1586 := n7_; have NB1587_1588 := n8_; have NB1588_1587 := n9_; clear n0_ n1_ n2_ n3_ n4_ n5_ n6_ n7_ n8_ n9_; clear hb hbox hg; have hnb6 := NB1587_1586.out; have hnc6 := NB1586_1587.out; have hnb7 := NB1587_1588.out; have hnc7 := NB1588_1587.out; have hcz8_0 : w5.cell? ⟨gb1587, 0, none⟩ = some (.int .i64 a1_0) := zB BK1587.out 0; have hcz8_1 : w5.cell? ⟨gb1587, 1, none⟩ = some (.int .i64 a1_1) := zB BK1587.out 1; have hfz8_0 := zJ BK1587.out 0; have hfz8_1 := zJ BK1587.out 1) | ((with_reducible refine zP (N := 5) rfl ?_); refine zO ?hg (N := 5) ?hd (cs := #[.int .i64 0, .int .i64 0]) (t := 38) ?hr ?_; (case hd => rfl); (case hg => rfl); (case hr => first | (go_simp; done) | (go_simp; rfl)); intro gb1589 hg w9 hbox hb; have n0_ := zC.mk (zK (g := gb1586) (o := .cells #[.int .i64 a0_0, .int .i64 a0_1, .int .i64 a0_2] 28 (0, 0)) (by (with_reducible repeat (first | refine zE ?_ _ | refine zI ?_ | refine zD ?_ _)); exact BK1586.out) hb); have n1_ := zC.mk (zK (g := gb1587) (o := .cells #[.int .i64 a1_0, .int .i64 a1_1] 38 (0, 0)) (by (with_reducible repeat (first | refine zE ?_ _ | refine zI ?_ | refine zD ?_ _)); exact BK1587.out) hb); have n2_ := zC.mk (zK (g := gb1588) (o := .cells #[.int .i64 0, .int .i64 0] 38 (0, 0)) (by (with_reducible repeat (first | refine zE ?_ _ | refine zI ?_ | refine zD ?_ _)); exact BK1588.out) hb); have n3_ := zC.mk (zL (by repeat (first | (with_reducible first | exact HB.out | apply zG | apply zA | apply zF | refine zH ?_ GE1586.out | refine zH ?_ GE1587.out | refine zH ?_ GE1588.out) | exact HB.out)) hb); have n4_ := zC.mk (hbox); have n5_ := zC.mk ((by rw [hg]; exact (zM (by repeat (first | (with_reducible first | exact HB.out | apply zG | apply zA | apply zF | refine zH ?_ GE1586.out | refine zH ?_ GE1587.out | refine zH ?_ GE1588.out) | exact HB.out))) : w.heap.size ≤ gb1589)); have n6_ := n5_; have n7_ := zC.mk ((by rw [hg]; exact Nat.ne_of_lt (zX (by (with_reducible repeat (first | refine zE ?_ _ | refine zI ?_ | refine zD ?_ _)); exact BK1586.out)) : gb1586 ≠ gb1589)); have n8_ := zC.mk n7_.out.symm; have n9_ := zC.mk ((by rw [hg]; exact Nat.ne_of_lt (zX (by (with_reducible repeat (first | refine zE ?_ _ | refine zI ?_ | refine zD ?_ _)); exact BK1587.out)) : gb1587 ≠ gb1589)); have n10_ := zC.mk n9_.out.symm; have n11_ := zC.mk ((by rw [hg]; exact Nat.ne_of_lt (zX (by (with_reducible repeat (first | refine zE ?_ _ | refine zI ?_ | refine zD ?_ _)); exact BK1588.out)) : gb1588 ≠ gb1589)); have n12_ := zC.mk n11_.out.symm; clear BK1586; clear BK1587; clear BK1588; clear HB; have BK1586 := n0_; have BK1587 := n1_; have BK1588 := n2_; have HB := n3_; have BK1589 := n4_; have GW1589 := n5_; have GE1589 := n6_; have NB1586_1589 := n7_; have NB1589_1586 := n8_; have NB1587_1589 := n9_; have NB1589_1587 := n10_; have NB1588_1589 := n11_; have NB1589_1588 := n12_; clear n0_ n1_ n2_ n3_ n4_ n5_ n6_ n7_ n8_ n9_ n10_ n11_ n12_; clear hb hbox hg; have hnb10 := NB1589_1586.out; have hnc10 := NB1586_1589.out; have hnb11 := NB1589_1587.out; have hnc11 := NB1587_1589.out; have hnb12 := NB1589_1588.out; have hnc12 := NB1588_1589.out; have hcz13_0 : w9.cell? ⟨gb1589, 0, none⟩ = some (.int .i64 0) := zB BK1589.out 0; have hcz13_1 : w9.cell? ⟨gb1589, 1, none⟩ = some (.int .i64 0) := zB BK1589.out 1; have hfz13_0 := zJ BK1589.out 0; have hfz13_1 := zJ BK1589.out 1))
 go_loopg [] k (fun kq w' => ∃ (x1590000_1 : Int) (x1590001_1 : Int), zC (yK.l0 kq a0_0 a0_1 a0_2 a1_0 a1_1 x1590000_1 x1590001_1 = some (r1, r2)) ∧ zC (kq ≤ k) ∧ zC (w'.heap[gb1586]? = some (.cells #[.int .i64 a0_0, .int .i64 a0_1, .int .i64 a0_2] 28 (0, 0))) ∧ zC (w'.heap[gb1587]? = some (.cells #[.int .i64 a1_0, .int .i64 a1_1] 38 (0, 0))) ∧ zC (w'.heap[gb1588]? = some (.cells #[.int .i64 0, .int .i64 0] 38 (0, 0))) ∧ zC (w'.heap[gb1589]? = some (.cells #[.int .i64 x1590000_1, .int .i64 x1590001_1] 38 (0, 0))) ∧ zC (Below w.heap.size w w'))
 case atStart => exact ⟨(a1_0), (a1_1), H', ⟨Nat.le_refl _⟩, ⟨by (with_reducible repeat (first | refine zE ?_ _ | refine zI ?_ | refine zD ?_ _)); refine zW ?_ NB1586_1589.out _; (with_reducible repeat (first | refine zE ?_ _ | refine zI ?_ | refine zD ?_ _)); refine zW ?_ NB1586_1589.out _; (with_reducible repeat (first | refine zE ?_ _ | refine zI ?_ | refine zD ?_ _)); exact BK1586.out⟩, ⟨by (with_reducible repeat (first | refine zE ?_ _ | refine zI ?_ | refine zD ?_ _)); refine zW ?_ NB1587_1589.out _; (with_reducible repeat (first | refine zE ?_ _ | refine zI ?_ | refine zD ?_ _)); refine zW ?_ NB1587_1589.out _; (with_reducible repeat (first | refine zE ?_ _ | refine zI ?_ | refine zD ?_ _)); exact BK1587.out⟩, ⟨by (with_reducible repeat (first | refine zE ?_ _ | refine zI ?_ | refine zD ?_ _)); refine zW ?_ NB1588_1589.out _; (with_reducible repeat (first | refine zE ?_ _ | refine zI ?_ | refine zD ?_ _)); refine zW ?_ NB1588_1589.out _; (with_reducible repeat (first | refine zE ?_ _ | refine zI ?_ | refine zD ?_ _)); exact BK1588.out⟩, ⟨by (with_reducible repeat (first | refine zE ?_ _ | refine zI ?_ | refine zD ?_ _)); refine zU (cs := #[.int .i64 a1_0, .int .i64 0]) ?_ 1 _ rfl; (with_reducible repeat (first | refine zE ?_ _ | refine zI ?_ | refine zD ?_ _)); refine zU (cs := #[.int .i64 0, .int .i64 0]) ?_ 0 _ rfl; (with_reducible repeat (first | refine zE ?_ _ | refine zI ?_ | refine zD ?_ _)); exact BK1589.out⟩, ⟨by repeat (first | (with_reducible first | exact HB.out | apply zG | apply zA | apply zF | refine zH ?_ GE1586.out | refine zH ?_ GE1587.out | refine zH ?_ GE1588.out | refine zH ?_ GE1589.out) | exact HB.out)⟩⟩
 case round =>
  clear H'
  try clear c1
  try clear p2
  try clear c6
  try clear c7
  try clear c10
  try clear c11
  try clear c12
  try clear hcz13_0
  try clear hcz13_1
  try clear hcz8_0
  try clear hcz8_1
  try clear hfz13_0
  try clear hfz13_1
  try clear hfz8_0
  try clear hfz8_1
  obtain ⟨x1590000_1, x1590001_1, HA, HK1, BK1586, BK1587, BK1588, BK1589, HB⟩ := hrel
  cases gk with
  | zero => exact absurd HA.out (by simp [yK.l0])
  | succ k1 =>
   have H := HA.out
   clear HA
   simp only [yK.l0] at H
   replace H := Option.bind_eq_some_iff.mp H
   obtain ⟨t1590, A140, H⟩ := H
   replace H : (if t1590 = true then (some (x1590000_1, x1590001_1)) else ((xW.f x1590000_1 x1590001_1 a1_0 a1_1).bind fun bt1591 => (yK.l0 k1 a0_0 a0_1 a0_2 a1_0 a1_1 bt1591.1 bt1591.2))) = some (r1, r2) := H
   have A14 := zC.mk A140
   clear A140
   by_cases c15 : t1590 = true
   ·
    subst c15
    have H1 : (some (x1590000_1, x1590001_1)) = some (r1, r2) := by rw [if_pos rfl] at H; exact H
    clear H
    have H := H1
    clear H1
    simp only [Option.some.injEq, Prod.mk.injEq] at H
    obtain ⟨rfl, rfl⟩ := H
    have hnb16 := NB1586_1587.out
    have hnc16 := NB1587_1586.out
    have hnb17 := NB1586_1588.out
    have hnc17 := NB1588_1586.out
    have hnb18 := NB1586_1589.out
    have hnc18 := NB1589_1586.out
    have hcz19_0 : wr.cell? ⟨gb1586, 0, none⟩ = some (.int .i64 a0_0) := zB BK1586.out 0
    have hcz19_1 : wr.cell? ⟨gb1586, 1, none⟩ = some (.int .i64 a0_1) := zB BK1586.out 1
    have hcz19_2 : wr.cell? ⟨gb1586, 2, none⟩ = some (.int .i64 a0_2) := zB BK1586.out 2
    have hfz19_0 := zJ BK1586.out 0
    have hfz19_1 := zJ BK1586.out 1
    have hfz19_2 := zJ BK1586.out 2
    have hnb20 := NB1589_1587.out
    have hnc20 := NB1587_1589.out
    have hnb21 := NB1589_1588.out
    have hnc21 := NB1588_1589.out
    have hcz22_0 : wr.cell? ⟨gb1589, 0, none⟩ = some (.int .i64 x1590000_1) := zB BK1589.out 0
    have hcz22_1 : wr.cell? ⟨gb1589, 1, none⟩ = some (.int .i64 x1590001_1) := zB BK1589.out 1
    have hfz22_0 := zJ BK1589.out 0
    have hfz22_1 := zJ BK1589.out 1
    go_wp2_with (first | ((with_reducible refine zS (f := 155) rfl ?_); refine zZ (some 9) rfl rfl Try.func155 (by kernel_rfl) rfl #[.agg #[.int .i64 a0_0, .int .i64 a0_1, .int .i64 a0_2], .agg #[.int .i64 x1590000_1, .int .i64 x1590001_1]] rfl (by (try simp only [List.map_toArray, List.map_cons, List.map_nil]); first | done | rfl) ?_; (with_reducible refine (xY.calls a0_0 a0_1 a0_2 x1590000_1 x1590001_1 true _ A14.out).mono ?_); rintro e w23 ⟨rfl, hb⟩; refine ⟨_, rfl, ?_⟩; have n0_ := zC.mk (zK (g := gb1586) (o := .cells #[.int .i64 a0_0, .int .i64 a0_1, .int .i64 a0_2] 28 (0, 0)) (by (with_reducible repeat (first | refine zE ?_ _ | refine zI ?_ | refine zD ?_ _)); exact BK1586.out) hb); have n1_ := zC.mk (zK (g := gb1587) (o := .cells #[.int .i64 a1_0, .int .i64 a1_1] 38 (0, 0)) (by (with_reducible repeat (first | refine zE ?_ _ | refine zI ?_ | refine zD ?_ _)); exact BK1587.out) hb); have n2_ := zC.mk (zK (g := gb1588) (o := .cells #[.int .i64 0, .int .i64 0] 38 (0, 0)) (by (with_reducible repeat (first | refine zE ?_ _ | refine zI ?_ | refine zD ?_ _)); exact BK1588.out) hb); have n3_ := zC.mk (zK (g := gb1589) (o := .cells #[.int .i64 x1590000_1, .int .i64 x1590001_1] 38 (0, 0)) (by (with_reducible repeat (first | refine zE ?_ _ | refine zI ?_ | refine zD ?_ _)); exact BK1589.out) hb); have n4_ := zC.mk (zL (by repeat (first | (with_reducible first | exact HB.out | apply zG | apply zA | apply zF | refine zH ?_ GE1586.out | refine zH ?_ GE1587.out | refine zH ?_ GE1588.out | refine zH ?_ GE1589.out) | exact HB.out)) hb); clear BK1586; clear BK1587; clear BK1588; clear BK1589; clear HB; have BK1586 := n0_; have BK1587 := n1_; have BK1588 := n2_; have BK1589 := n3_; have HB := n4_; clear n0_ n1_ n2_ n3_ n4_; (try clear hb); have hcz24_0 : w23.cell? ⟨gb1589, 0, none⟩ = some (.int .i64 x1590000_1) := zB BK1589.out 0; have hcz24_1 : w23.cell? ⟨gb1589, 1, none⟩ = some (.int .i64 x1590001_1) := zB BK1589.out 1; have hfz24_0 := zJ BK1589.out 0; have hfz24_1 := zJ BK1589.out 1; have hnb25 := NB1588_1587.out; have hnc25 := NB1587_1588.out; have hcz26_0 : w23.cell? ⟨gb1588, 0, none⟩ = some (.int .i64 0) := zB BK1588.out 0; have hcz26_1 : w23.cell? ⟨gb1588, 1, none⟩ = some (.int .i64 0) := zB BK1588.out 1; have hfz26_0 := zJ BK1588.out 0; have hfz26_1 := zJ BK1588.out 1))
    refine bodyPost_ret (results_cell_row rfl _ _ gb1588 38 #[.int .i64 x1590000_1, .int .i64 x1590001_1] (0, 0) _ rfl (by (with_reducible repeat (first | refine zE ?_ _ | refine zI ?_ | refine zD ?_ _)); refine zU (cs := #[.int .i64 x1590000_1, .int .i64 0]) ?_ 1 _ rfl; (with_reducible repeat (first | refine zE ?_ _ | refine zI ?_ | refine zD ?_ _)); refine zU (cs := #[.int .i64 0, .int .i64 0]) ?_ 0 _ rfl; (with_reducible repeat (first | refine zE ?_ _ | refine zI ?_ | refine zD ?_ _)); exact BK1588.out) Try.underlying38 rfl (by kernel_rfl)) rfl ?_
    exact ⟨by first | rfl | (simp [*, errW_none, errW_some] <;> rfl), by repeat (first | (with_reducible first | exact HB.out | apply zG | apply zA | apply zF | refine zH ?_ GE1586.out | refine zH ?_ GE1587.out | refine zH ?_ GE1588.out | refine zH ?_ GE1589.out) | exact HB.out)⟩
   ·
    replace c15 := Bool.eq_false_iff.mpr c15
    subst c15
    have H1 : ((xW.f x1590000_1 x1590001_1 a1_0 a1_1).bind fun bt1591 => (yK.l0 k1 a0_0 a0_1 a0_2 a1_0 a1_1 bt1591.1 bt1591.2)) = some (r1, r2) := by rw [if_neg (show ¬ (false = true) by decide)] at H; exact H
    clear H
    have H := H1
    clear H1
    replace H := Option.bind_eq_some_iff.mp H
    obtain ⟨⟨t1591, t1592⟩, A270, H⟩ := H
    replace H : (yK.l0 k1 a0_0 a0_1 a0_2 a1_0 a1_1 t1591 t1592) = some (r1, r2) := H
    have A27 := zC.mk A270
    clear A270
    have H' := zC.mk H
    clear H
    have hnb28 := NB1586_1587.out
    have hnc28 := NB1587_1586.out
    have hnb29 := NB1586_1588.out
    have hnc29 := NB1588_1586.out
    have hnb30 := NB1586_1589.out
    have hnc30 := NB1589_1586.out
    have hcz31_0 : wr.cell? ⟨gb1586, 0, none⟩ = some (.int .i64 a0_0) := zB BK1586.out 0
    have hcz31_1 : wr.cell? ⟨gb1586, 1, none⟩ = some (.int .i64 a0_1) := zB BK1586.out 1
    have hcz31_2 : wr.cell? ⟨gb1586, 2, none⟩ = some (.int .i64 a0_2) := zB BK1586.out 2
    have hfz31_0 := zJ BK1586.out 0
    have hfz31_1 := zJ BK1586.out 1
    have hfz31_2 := zJ BK1586.out 2
    have hnb32 := NB1589_1587.out
    have hnc32 := NB1587_1589.out
    have hnb33 := NB1589_1588.out
    have hnc33 := NB1588_1589.out
    have hcz34_0 : wr.cell? ⟨gb1589, 0, none⟩ = some (.int .i64 x1590000_1) := zB BK1589.out 0
    have hcz34_1 : wr.cell? ⟨gb1589, 1, none⟩ = some (.int .i64 x1590001_1) := zB BK1589.out 1
    have hfz34_0 := zJ BK1589.out 0
    have hfz34_1 := zJ BK1589.out 1
    go_wp2_with (first | ((with_reducible refine zS (f := 155) rfl ?_); refine zZ (some 9) rfl rfl Try.func155 (by kernel_rfl) rfl #[.agg #[.int .i64 a0_0, .int .i64 a0_1, .int .i64 a0_2], .agg #[.int .i64 x1590000_1, .int .i64 x1590001_1]] rfl (by (try simp only [List.map_toArray, List.map_cons, List.map_nil]); first | done | rfl) ?_; (with_reducible refine (xY.calls a0_0 a0_1 a0_2 x1590000_1 x1590001_1 false _ A14.out).mono ?_); rintro e w35 ⟨rfl, hb⟩; refine ⟨_, rfl, ?_⟩; have n0_ := zC.mk (zK (g := gb1586) (o := .cells #[.int .i64 a0_0, .int .i64 a0_1, .int .i64 a0_2] 28 (0, 0)) (by (with_reducible repeat (first | refine zE ?_ _ | refine zI ?_ | refine zD ?_ _)); exact BK1586.out) hb); have n1_ := zC.mk (zK (g := gb1587) (o := .cells #[.int .i64 a1_0, .int .i64 a1_1] 38 (0, 0)) (by (with_reducible repeat (first | refine zE ?_ _ | refine zI ?_ | refine zD ?_ _)); exact BK1587.out) hb); have n2_ := zC.mk (zK (g := gb1588) (o := .cells #[.int .i64 0, .int .i64 0] 38 (0, 0)) (by (with_reducible repeat (first | refine zE ?_ _ | refine zI ?_ | refine zD ?_ _)); exact BK1588.out) hb); have n3_ := zC.mk (zK (g := gb1589) (o := .cells #[.int .i64 x1590000_1, .int .i64 x1590001_1] 38 (0, 0)) (by (with_reducible repeat (first | refine zE ?_ _ | refine zI ?_ | refine zD ?_ _)); exact BK1589.out) hb); have n4_ := zC.mk (zL (by repeat (first | (with_reducible first | exact HB.out | apply zG | apply zA | apply zF | refine zH ?_ GE1586.out | refine zH ?_ GE1587.out | refine zH ?_ GE1588.out | refine zH ?_ GE1589.out) | exact HB.out)) hb); clear BK1586; clear BK1587; clear BK1588; clear BK1589; clear HB; have BK1586 := n0_; have BK1587 := n1_; have BK1588 := n2_; have BK1589 := n3_; have HB := n4_; clear n0_ n1_ n2_ n3_ n4_; (try clear hb); have hcz36_0 : w35.cell? ⟨gb1589, 0, none⟩ = some (.int .i64 x1590000_1) := zB BK1589.out 0; have hcz36_1 : w35.cell? ⟨gb1589, 1, none⟩ = some (.int .i64 x1590001_1) := zB BK1589.out 1; have hfz36_0 := zJ BK1589.out 0; have hfz36_1 := zJ BK1589.out 1; have hnb37 := NB1587_1588.out; have hnc37 := NB1588_1587.out; have hcz38_0 : w35.cell? ⟨gb1587, 0, none⟩ = some (.int .i64 a1_0) := zB BK1587.out 0; have hcz38_1 : w35.cell? ⟨gb1587, 1, none⟩ = some (.int .i64 a1_1) := zB BK1587.out 1; have hfz38_0 := zJ BK1587.out 0; have hfz38_1 := zJ BK1587.out 1) | ((with_reducible refine zS (f := 122) rfl ?_); refine zZ (some 13) rfl rfl Try.func122 (by kernel_rfl) rfl #[.agg #[.int .i64 x1590000_1, .int .i64 x1590001_1], .agg #[.int .i64 a1_0, .int .i64 a1_1]] rfl (by (try simp only [List.map_toArray, List.map_cons, List.map_nil]); first | done | rfl) ?_; (with_reducible refine (xW.calls x1590000_1 x1590001_1 a1_0 a1_1 t1591 t1592 _ A27.out).mono ?_); rintro e w39 ⟨rfl, hb⟩; refine ⟨_, rfl, ?_⟩; have n0_ := zC.mk (zK (g := gb1586) (o := .cells #[.int .i64 a0_0, .int .i64 a0_1, .int .i64 a0_2] 28 (0, 0)) (by (with_reducible repeat (first | refine zE ?_ _ | refine zI ?_ | refine zD ?_ _)); exact BK1586.out) hb); have n1_ := zC.mk (zK (g := gb1587) (o := .cells #[.int .i64 a1_0, .int .i64 a1_1] 38 (0, 0)) (by (with_reducible repeat (first | refine zE ?_ _ | refine zI ?_ | refine zD ?_ _)); exact BK1587.out) hb); have n2_ := zC.mk (zK (g := gb1588) (o := .cells #[.int .i64 0, .int .i64 0] 38 (0, 0)) (by (with_reducible repeat (first | refine zE ?_ _ | refine zI ?_ | refine zD ?_ _)); exact BK1588.out) hb); have n3_ := zC.mk (zK (g := gb1589) (o := .cells #[.int .i64 x1590000_1, .int .i64 x1590001_1] 38 (0, 0)) (by (with_reducible repeat (first | refine zE ?_ _ | refine zI ?_ | refine zD ?_ _)); exact BK1589.out) hb); have n4_ := zC.mk (zL (by repeat (first | (with_reducible first | exact HB.out | apply zG | apply zA | apply zF | refine zH ?_ GE1586.out | refine zH ?_ GE1587.out | refine zH ?_ GE1588.out | refine zH ?_ GE1589.out) | exact HB.out)) hb); clear BK1586; clear BK1587; clear BK1588; clear BK1589; clear HB; have BK1586 := n0_; have BK1587 := n1_; have BK1588 := n2_; have BK1589 := n3_; have HB := n4_; clear n0_ n1_ n2_ n3_ n4_; (try clear hb); have hcz40_0 : w39.cell? ⟨gb1589, 0, none⟩ = some (.int .i64 x1590000_1) := zB BK1589.out 0; have hcz40_1 : w39.cell? ⟨gb1589, 1, none⟩ = some (.int .i64 x1590001_1) := zB BK1589.out 1; have hfz40_0 := zJ BK1589.out 0; have hfz40_1 := zJ BK1589.out 1))
    go_roundg k1
    case measure => have := HK1.out; omega
    case rel => exact ⟨(t1591), (t1592), H', ⟨by have := HK1.out; omega⟩, ⟨by (with_reducible repeat (first | refine zE ?_ _ | refine zI ?_ | refine zD ?_ _)); refine zW ?_ NB1586_1589.out _; (with_reducible repeat (first | refine zE ?_ _ | refine zI ?_ | refine zD ?_ _)); refine zW ?_ NB1586_1589.out _; (with_reducible repeat (first | refine zE ?_ _ | refine zI ?_ | refine zD ?_ _)); exact BK1586.out⟩, ⟨by (with_reducible repeat (first | refine zE ?_ _ | refine zI ?_ | refine zD ?_ _)); refine zW ?_ NB1587_1589.out _; (with_reducible repeat (first | refine zE ?_ _ | refine zI ?_ | refine zD ?_ _)); refine zW ?_ NB1587_1589.out _; (with_reducible repeat (first | refine zE ?_ _ | refine zI ?_ | refine zD ?_ _)); exact BK1587.out⟩, ⟨by (with_reducible repeat (first | refine zE ?_ _ | refine zI ?_ | refine zD ?_ _)); refine zW ?_ NB1588_1589.out _; (with_reducible repeat (first | refine zE ?_ _ | refine zI ?_ | refine zD ?_ _)); refine zW ?_ NB1588_1589.out _; (with_reducible repeat (first | refine zE ?_ _ | refine zI ?_ | refine zD ?_ _)); exact BK1588.out⟩, ⟨by (with_reducible repeat (first | refine zE ?_ _ | refine zI ?_ | refine zD ?_ _)); refine zU (cs := #[.int .i64 t1591, .int .i64 x1590001_1]) ?_ 1 _ rfl; (with_reducible repeat (first | refine zE ?_ _ | refine zI ?_ | refine zD ?_ _)); refine zU (cs := #[.int .i64 x1590000_1, .int .i64 x1590001_1]) ?_ 0 _ rfl; (with_reducible repeat (first | refine zE ?_ _ | refine zI ?_ | refine zD ?_ _)); exact BK1589.out⟩, ⟨by repeat (first | (with_reducible first | exact HB.out | apply zG | apply zA | apply zF | refine zH ?_ GE1586.out | refine zH ?_ GE1587.out | refine zH ?_ GE1588.out | refine zH ?_ GE1589.out) | exact HB.out)⟩⟩
theorem fld108_38_0 (a b : Int) (w : World) : (Instr.field 38 (.agg #[.int .i64 a, .int .i64 b]) 0).run Try.prog w = .ok (.int .i64 a) w := by kernel_rfl
theorem fld108_38_1 (a b : Int) (w : World) : (Instr.field 38 (.agg #[.int .i64 a, .int .i64 b]) 1).run Try.prog w = .ok (.int .i64 b) w := by kernel_rfl
attribute [local go_sem] fld108_38_0 fld108_38_1
theorem xC.calls (k : Nat) (a0_0 : Int) (a0_1 : Int) (a0_2 : Int) (r : Int) (w : World) (h : xC.f k a0_0 a0_1 a0_2 = some r) :
  Calls Try.prog 108 #[.agg #[.int .i64 a0_0, .int .i64 a0_1, .int .i64 a0_2]] w fun e w' => e = .returned (.int .i64 r) ∧ Below w.heap.size w w' := by
 have hu28 := Try.underlying28
 have hu38 := Try.underlying38
 have HB := zC.mk (Below.refl w.heap.size w)
 have H : ((yK.f k a0_0 a0_1 a0_2 0 1).bind fun bt1594 => (some bt1594.2)) = some r := h
 clear h
 replace H := Option.bind_eq_some_iff.mp H
 obtain ⟨⟨t1594, t1595⟩, A20, H⟩ := H
 replace H : (some t1595) = some r := H
 have A2 := zC.mk A20
 clear A20
 obtain rfl := Option.some.inj H
 go_enter Try.func108, Try.ntmps108
 go_wp2_with (first | ((with_reducible refine zP (N := 1) rfl ?_); refine zO ?hg (N := 1) ?hd (cs := #[.int .i64 a0_0, .int .i64 a0_1, .int .i64 a0_2]) (t := 28) ?hr ?_; (case hd => rfl); (case hg => rfl); (case hr => first | (go_simp; done) | (go_simp; rfl)); intro gb1593 hg w3 hbox hb; have n0_ := zC.mk (zL (by repeat (first | (with_reducible first | exact HB.out | apply zG | apply zA | apply zF) | exact HB.out)) hb); have n1_ := zC.mk (hbox); have n2_ := zC.mk ((by rw [hg]; exact (zM (by repeat (first | (with_reducible first | exact HB.out | apply zG | apply zA | apply zF) | exact HB.out))) : w.heap.size ≤ gb1593)); have n3_ := n2_; clear HB; have HB := n0_; have BK1593 := n1_; have GW1593 := n2_; have GE1593 := n3_; clear n0_ n1_ n2_ n3_; clear hb hbox hg; have hcz4_0 : w3.cell? ⟨gb1593, 0, none⟩ = some (.int .i64 a0_0) := zB BK1593.out 0; have hcz4_1 : w3.cell? ⟨gb1593, 1, none⟩ = some (.int .i64 a0_1) := zB BK1593.out 1; have hcz4_2 : w3.cell? ⟨gb1593, 2, none⟩ = some (.int .i64 a0_2) := zB BK1593.out 2; have hfz4_0 := zJ BK1593.out 0; have hfz4_1 := zJ BK1593.out 1; have hfz4_2 := zJ BK1593.out 2) | ((with_reducible refine zS (f := 154) rfl ?_); refine zZ (some 5) rfl rfl Try.func154 (by kernel_rfl) rfl #[.agg #[.int .i64 a0_0, .int .i64 a0_1, .int .i64 a0_2], .agg #[.int .i64 0, .int .i64 1]] rfl (by (try simp only [List.map_toArray, List.map_cons, List.map_nil]); first | done | rfl) ?_; (with_reducible refine (yK.calls k a0_0 a0_1 a0_2 0 1 t1594 t1595 _ A2.out).mono ?_); rintro e w5 ⟨rfl, hb⟩; refine ⟨_, rfl, ?_⟩; have n0_ := zC.mk (zK (g := gb1593) (o := .cells #[.int .i64 a0_0, .int .i64 a0_1, .int .i64 a0_2] 28 (0, 0)) (by (with_reducible repeat (first | refine zE ?_ _ | refine zI ?_ | refine zD ?_ _)); exact BK1593.out) hb); have n1_ := zC.mk (zL (by repeat (first | (with_reducible first | exact HB.out | apply zG | apply zA | apply zF | refine zH ?_ GE1593.out) | exact HB.out)) hb); clear BK1593; clear HB; have BK1593 := n0_; have HB := n1_; clear n0_ n1_; (try clear hb)))
 go_ret
 exact ⟨by first | rfl | (simp [*, errW_none, errW_some] <;> rfl), by repeat (first | (with_reducible first | exact HB.out | apply zG | apply zA | apply zF | refine zH ?_ GE1593.out) | exact HB.out)⟩
theorem yO.calls (k : Nat) (a0_0 : Int) (a0_1 : Int) (a0_2 : Int) (a1 : Int) (r : Int) (w : World) (h : yO.f k a0_0 a0_1 a0_2 a1 = some r) :
  Calls Try.prog 111 #[.agg #[.int .i64 a0_0, .int .i64 a0_1, .int .i64 a0_2], .int .i64 a1] w fun e w' => e = .returned (.int .i64 r) ∧ Below w.heap.size w w' := by
 have hu28 := Try.underlying28
 have hu38 := Try.underlying38
 have HB := zC.mk (Below.refl w.heap.size w)
 have H : ((xC.f k a0_0 a0_1 a0_2).bind fun t1691 => (yO.l0 k a1 t1691 0 a0_0 a0_1 a0_2)) = some r := h
 clear h
 replace H := Option.bind_eq_some_iff.mp H
 obtain ⟨t1691, A30, H⟩ := H
 replace H : (yO.l0 k a1 t1691 0 a0_0 a0_1 a0_2) = some r := H
 have A3 := zC.mk A30
 clear A30
 have H' := zC.mk H
 clear H
 go_enter Try.func111, Try.ntmps111
 go_wp2_with (first | ((with_reducible refine zP (N := 2) rfl ?_); refine zO ?hg (N := 2) ?hd (cs := #[.int .i64 a0_0, .int .i64 a0_1, .int .i64 a0_2]) (t := 28) ?hr ?_; (case hd => rfl); (case hg => rfl); (case hr => first | (go_simp; done) | (go_simp; rfl)); intro gb1690 hg w4 hbox hb; have n0_ := zC.mk (zL (by repeat (first | (with_reducible first | exact HB.out | apply zG | apply zA | apply zF) | exact HB.out)) hb); have n1_ := zC.mk (hbox); have n2_ := zC.mk ((by rw [hg]; exact (zM (by repeat (first | (with_reducible first | exact HB.out | apply zG | apply zA | apply zF) | exact HB.out))) : w.heap.size ≤ gb1690)); have n3_ := n2_; clear HB; have HB := n0_; have BK1690 := n1_; have GW1690 := n2_; have GE1690 := n3_; clear n0_ n1_ n2_ n3_; clear hb hbox hg; have hcz5_0 : w4.cell? ⟨gb1690, 0, none⟩ = some (.int .i64 a0_0) := zB BK1690.out 0; have hcz5_1 : w4.cell? ⟨gb1690, 1, none⟩ = some (.int .i64 a0_1) := zB BK1690.out 1; have hcz5_2 : w4.cell? ⟨gb1690, 2, none⟩ = some (.int .i64 a0_2) := zB BK1690.out 2; have hfz5_0 := zJ BK1690.out 0; have hfz5_1 := zJ BK1690.out 1; have hfz5_2 := zJ BK1690.out 2) | ((with_reducible refine zS (f := 108) rfl ?_); refine zZ (some 7) rfl rfl Try.func108 (by kernel_rfl) rfl #[.agg #[.int .i64 a0_0, .int .i64 a0_1, .int .i64 a0_2]] rfl (by (try simp only [List.map_toArray, List.map_cons, List.map_nil]); first | done | rfl) ?_; (with_reducible refine (xC.calls k a0_0 a0_1 a0_2 t1691 _ A3.out).mono ?_); rintro e w6 ⟨rfl, hb⟩; refine ⟨_, rfl, ?_⟩; have n0_ := zC.mk (zK (g := gb1690) (o := .cells #[.int .i64 a0_0, .int .i64 a0_1, .int .i64 a0_2] 28 (0, 0)) (by (with_reducible repeat (first | refine zE ?_ _ | refine zI ?_ | refine zD ?_ _)); exact BK1690.out) hb); have n1_ := zC.mk (zL (by repeat (first | (with_reducible first | exact HB.out | apply zG | apply zA | apply zF | refine zH ?_ GE1690.out) | exact HB.out)) hb); clear BK1690; clear HB; have BK1690 := n0_; have HB := n1_; clear n0_ n1_; (try clear hb)))
 go_loopg [8] k (fun kq v8 w' => ∃ (x8_1 : Int), v8 = .int .i64 x8_1 ∧ zC (yO.l0 kq a1 t1691 x8_1 a0_0 a0_1 a0_2 = some r) ∧ zC (kq ≤ k) ∧ zC (w'.heap[gb1690]? = some (.cells #[.int .i64 a0_0, .int .i64 a0_1, .int .i64 a0_2] 28 (0, 0))) ∧ zC (Below w.heap.size w w'))
 case atStart => exact ⟨(0), (by first | rfl | (simp; done) | (simp [*]; done)), H', ⟨Nat.le_refl _⟩, ⟨by (with_reducible repeat (first | refine zE ?_ _ | refine zI ?_ | refine zD ?_ _)); exact BK1690.out⟩, ⟨by repeat (first | (with_reducible first | exact HB.out | apply zG | apply zA | apply zF | refine zH ?_ GE1690.out) | exact HB.out)⟩⟩
 case round =>
  clear H'
  try clear c1
  try clear p2
  try clear hcz5_0
  try clear hcz5_1
  try clear hcz5_2
  try clear hfz5_0
  try clear hfz5_1
  try clear hfz5_2
  obtain ⟨x8_1, rfl, HA, HK1, BK1690, HB⟩ := hrel
  cases gk with
  | zero => exact absurd HA.out (by simp [yO.l0])
  | succ k1 =>
   have H := HA.out
   clear HA
   simp only [yO.l0] at H
   by_cases c7 : x8_1 < t1691
   ·
    rw [if_pos c7] at H
    have c7b0 : decide (x8_1 < t1691) = true := decide_eq_true c7
    clear c7
    replace H := Option.bind_eq_some_iff.mp H
    obtain ⟨t1692, A80, H⟩ := H
    replace H : (if t1692 = true then (some x8_1) else (yO.l0 k1 a1 t1691 (wrap64 (x8_1 + 1)) a0_0 a0_1 a0_2)) = some r := H
    have A8 := zC.mk A80
    clear A80
    by_cases c9 : t1692 = true
    ·
     subst c9
     have H1 : (some x8_1) = some r := by rw [if_pos rfl] at H; exact H
     clear H
     have H := H1
     clear H1
     obtain rfl := Option.some.inj H
     have hcz10_0 : wr.cell? ⟨gb1690, 0, none⟩ = some (.int .i64 a0_0) := zB BK1690.out 0
     have hcz10_1 : wr.cell? ⟨gb1690, 1, none⟩ = some (.int .i64 a0_1) := zB BK1690.out 1
     have hcz10_2 : wr.cell? ⟨gb1690, 2, none⟩ = some (.int .i64 a0_2) := zB BK1690.out 2
     have hfz10_0 := zJ BK1690.out 0
     have hfz10_1 := zJ BK1690.out 1
     have hfz10_2 := zJ BK1690.out 2
     go_wp2_with (first | ((with_reducible refine zS (f := 155) rfl ?_); refine zZ (some 16) rfl rfl Try.func155 (by kernel_rfl) rfl #[.agg #[.int .i64 a0_0, .int .i64 a0_1, .int .i64 a0_2], .agg #[.int .i64 a1, .int .i64 (wrap64 (-x8_1))]] rfl (by (try simp only [List.map_toArray, List.map_cons, List.map_nil]); first | done | rfl) ?_; (with_reducible refine (xY.calls a0_0 a0_1 a0_2 a1 (wrap64 (-x8_1)) true _ A8.out).mono ?_); rintro e w11 ⟨rfl, hb⟩; refine ⟨_, rfl, ?_⟩; have n0_ := zC.mk (zK (g := gb1690) (o := .cells #[.int .i64 a0_0, .int .i64 a0_1, .int .i64 a0_2] 28 (0, 0)) (by (with_reducible repeat (first | refine zE ?_ _ | refine zI ?_ | refine zD ?_ _)); exact BK1690.out) hb); have n1_ := zC.mk (zL (by repeat (first | (with_reducible first | exact HB.out | apply zG | apply zA | apply zF | refine zH ?_ GE1690.out) | exact HB.out)) hb); clear BK1690; clear HB; have BK1690 := n0_; have HB := n1_; clear n0_ n1_; (try clear hb)))
     go_ret
     exact ⟨by first | rfl | (simp [*, errW_none, errW_some] <;> rfl), by repeat (first | (with_reducible first | exact HB.out | apply zG | apply zA | apply zF | refine zH ?_ GE1690.out) | exact HB.out)⟩
    ·
     replace c9 := Bool.eq_false_iff.mpr c9
     subst c9
     have H1 : (yO.l0 k1 a1 t1691 (wrap64 (x8_1 + 1)) a0_0 a0_1 a0_2) = some r := by rw [if_neg (show ¬ (false = true) by decide)] at H; exact H
     clear H
     have H := H1
     clear H1
     have H' := zC.mk H
     clear H
     have hcz12_0 : wr.cell? ⟨gb1690, 0, none⟩ = some (.int .i64 a0_0) := zB BK1690.out 0
     have hcz12_1 : wr.cell? ⟨gb1690, 1, none⟩ = some (.int .i64 a0_1) := zB BK1690.out 1
     have hcz12_2 : wr.cell? ⟨gb1690, 2, none⟩ = some (.int .i64 a0_2) := zB BK1690.out 2
     have hfz12_0 := zJ BK1690.out 0
     have hfz12_1 := zJ BK1690.out 1
     have hfz12_2 := zJ BK1690.out 2
     go_wp2_with (first | ((with_reducible refine zS (f := 155) rfl ?_); refine zZ (some 16) rfl rfl Try.func155 (by kernel_rfl) rfl #[.agg #[.int .i64 a0_0, .int .i64 a0_1, .int .i64 a0_2], .agg #[.int .i64 a1, .int .i64 (wrap64 (-x8_1))]] rfl (by (try simp only [List.map_toArray, List.map_cons, List.map_nil]); first | done | rfl) ?_; (with_reducible refine (xY.calls a0_0 a0_1 a0_2 a1 (wrap64 (-x8_1)) false _ A8.out).mono ?_); rintro e w13 ⟨rfl, hb⟩; refine ⟨_, rfl, ?_⟩; have n0_ := zC.mk (zK (g := gb1690) (o := .cells #[.int .i64 a0_0, .int .i64 a0_1, .int .i64 a0_2] 28 (0, 0)) (by (with_reducible repeat (first | refine zE ?_ _ | refine zI ?_ | refine zD ?_ _)); exact BK1690.out) hb); have n1_ := zC.mk (zL (by repeat (first | (with_reducible first | exact HB.out | apply zG | apply zA | apply zF | refine zH ?_ GE1690.out) | exact HB.out)) hb); clear BK1690; clear HB; have BK1690 := n0_; have HB := n1_; clear n0_ n1_; (try clear hb)))
     go_roundg k1
     case measure => have := HK1.out; omega
     case rel => exact ⟨(wrap64 (x8_1 + 1)), (by first | rfl | (simp; done) | (simp [*]; done)), H', ⟨by have := HK1.out; omega⟩, ⟨by (with_reducible repeat (first | refine zE ?_ _ | refine zI ?_ | refine zD ?_ _)); exact BK1690.out⟩, ⟨by repeat (first | (with_reducible first | exact HB.out | apply zG | apply zA | apply zF | refine zH ?_ GE1690.out) | exact HB.out)⟩⟩
   ·
    rw [if_neg c7] at H
    have c7b0 : decide (x8_1 < t1691) = false := decide_eq_false c7
    clear c7
    obtain rfl := Option.some.inj H
    go_wp2
    go_ret
    exact ⟨by first | rfl | (simp [*, errW_none, errW_some] <;> rfl), by repeat (first | (with_reducible first | exact HB.out | apply zG | apply zA | apply zF | refine zH ?_ GE1690.out) | exact HB.out)⟩
theorem yW.calls (k : Nat) (a0_0 : Int) (a0_1 : Int) (a0_2 : Int) (a0_3 : Int) (A0_4 : Option Addr) (c0_4 : Nat) (l0_4 : List Int) (a1 : Int) (a2 : Bool) (r1 : Int) (r2 : Int) (r3 : Int) (w : World) (hr0_4 : Kd.C (Kd.int .i64) w A0_4 l0_4.length l0_4) (hc0_4 : l0_4.length ≤ c0_4) (h : yW.f k a0_0 a0_1 a0_2 a0_3 l0_4 a1 a2 = some (r1, r2, r3)) :
  Calls Try.prog 112 #[.agg #[.int .i64 a0_0, .int .i64 a0_1, .int .i64 a0_2, .int .i64 a0_3, .slice A0_4 l0_4.length c0_4], .int .i64 a1, .bool a2] w fun e w' => e = .returned (.tuple #[.int .i64 r1, .int .i64 r2, .int .i64 r3]) ∧ Below w.heap.size w w' := by
 have hu30 := Try.underlying30
 have hu28 := Try.underlying28
 have HR0_4 := zC.mk hr0_4
 have HC0_4 := zC.mk hc0_4
 clear hr0_4 hc0_4
 have HB := zC.mk (Below.refl w.heap.size w)
 have H : ((xH.f k a0_0 a0_1 a0_2 a0_3 l0_4).bind fun bt1742 => (if bt1742.2.2.2 = 0 then ((wA.f a1).bind fun t1747 => (if t1747 = true then (yW.j0 k a1 (!a2) bt1742.1 bt1742.2.1 bt1742.2.2.1) else (yW.j0 k a1 true bt1742.1 bt1742.2.1 bt1742.2.2.1))) else (some (0, 0, bt1742.2.2.2)))) = some (r1, r2, r3) := h
 clear h
 replace H := Option.bind_eq_some_iff.mp H
 obtain ⟨⟨t1742, t1743, t1744, t1745⟩, A40, H⟩ := H
 replace H : (if t1745 = 0 then ((wA.f a1).bind fun t1747 => (if t1747 = true then (yW.j0 k a1 (!a2) t1742 t1743 t1744) else (yW.j0 k a1 true t1742 t1743 t1744))) else (some (0, 0, t1745))) = some (r1, r2, r3) := H
 have A4 := zC.mk A40
 clear A40
 have HX5 := zC.mk H
 clear H
 go_enter Try.func112, Try.ntmps112
 go_upto_if 18 with (first | ((with_reducible refine zP (N := 3) rfl ?_); refine zO ?hg (N := 3) ?hd (cs := #[.int .i64 a0_0, .int .i64 a0_1, .int .i64 a0_2, .int .i64 a0_3, .slice A0_4 l0_4.length c0_4]) (t := 30) ?hr ?_; (case hd => rfl); (case hg => rfl); (case hr => first | (go_simp; done) | (go_simp; rfl)); intro gb1741 hg w6 hbox hb; have n0_ := zC.mk (zL (by repeat (first | (with_reducible first | exact HB.out | apply zG | apply zA | apply zF) | exact HB.out)) hb); have n1_ := zC.mk (hbox); have n2_ := zC.mk ((by rw [hg]; exact (zM (by repeat (first | (with_reducible first | exact HB.out | apply zG | apply zA | apply zF) | exact HB.out))) : w.heap.size ≤ gb1741)); have n3_ := n2_; clear HB; have HB := n0_; have BK1741 := n1_; have GW1741 := n2_; have GE1741 := n3_; clear n0_ n1_ n2_ n3_; clear hb hbox hg; have hcz7_0 : w6.cell? ⟨gb1741, 0, none⟩ = some (.int .i64 a0_0) := zB BK1741.out 0; have hcz7_1 : w6.cell? ⟨gb1741, 1, none⟩ = some (.int .i64 a0_1) := zB BK1741.out 1; have hcz7_2 : w6.cell? ⟨gb1741, 2, none⟩ = some (.int .i64 a0_2) := zB BK1741.out 2; have hcz7_3 : w6.cell? ⟨gb1741, 3, none⟩ = some (.int .i64 a0_3) := zB BK1741.out 3; have hcz7_4 : w6.cell? ⟨gb1741, 4, none⟩ = some (.slice A0_4 l0_4.length c0_4) := zB BK1741.out 4; have hfz7_0 := zJ BK1741.out 0; have hfz7_1 := zJ BK1741.out 1; have hfz7_2 := zJ BK1741.out 2; have hfz7_3 := zJ BK1741.out 3; have hfz7_4 := zJ BK1741.out 4) | ((with_reducible refine zS (f := 107) rfl ?_); refine zZ (some 14) rfl rfl Try.func107 (by kernel_rfl) rfl #[.agg #[.int .i64 a0_0, .int .i64 a0_1, .int .i64 a0_2, .int .i64 a0_3, .slice A0_4 l0_4.length c0_4]] rfl (by (try simp only [List.map_toArray, List.map_cons, List.map_nil]); first | done | rfl) ?_; (with_reducible refine (xH.calls k a0_0 a0_1 a0_2 a0_3 _ _ l0_4 t1742 t1743 t1744 t1745 _ ?side1 ?side2 A4.out).mono ?_); (case side1 => repeat (first | exact (Kd.C_below HR0_4.out HB.out) | (with_reducible refine Kd.C_alloc ?_ _) | (with_reducible refine Kd.C_drewN ?_ _) | (with_reducible refine Kd.C_drew ?_))); (case side2 => exact HC0_4.out); rintro e w8 ⟨rfl, hb⟩; refine ⟨_, rfl, ?_⟩; have n0_ := zC.mk (zK (g := gb1741) (o := .cells #[.int .i64 a0_0, .int .i64 a0_1, .int .i64 a0_2, .int .i64 a0_3, .slice A0_4 l0_4.length c0_4] 30 (0, 0)) (by (with_reducible repeat (first | refine zE ?_ _ | refine zI ?_ | refine zD ?_ _)); exact BK1741.out) hb); have n1_ := zC.mk (zL (by repeat (first | (with_reducible first | exact HB.out | apply zG | apply zA | apply zF | refine zH ?_ GE1741.out) | exact HB.out)) hb); clear BK1741; clear HB; have BK1741 := n0_; have HB := n1_; clear n0_ n1_; (try clear hb)) | ((with_reducible refine zP (N := 9) rfl ?_); refine zO ?hg (N := 9) ?hd (cs := #[.int .i64 0, .int .i64 0, .int .i64 0]) (t := 28) ?hr ?_; (case hd => rfl); (case hg => rfl); (case hr => first | (go_simp; done) | (go_simp; rfl)); intro gb1746 hg w9 hbox hb; have n0_ := zC.mk (zK (g := gb1741) (o := .cells #[.int .i64 a0_0, .int .i64 a0_1, .int .i64 a0_2, .int .i64 a0_3, .slice A0_4 l0_4.length c0_4] 30 (0, 0)) (by (with_reducible repeat (first | refine zE ?_ _ | refine zI ?_ | refine zD ?_ _)); exact BK1741.out) hb); have n1_ := zC.mk (zL (by repeat (first | (with_reducible first | exact HB.out | apply zG | apply zA | apply zF | refine zH ?_ GE1741.out) | exact HB.out)) hb); have n2_ := zC.mk (hbox); have n3_ := zC.mk ((by rw [hg]; exact (zM (by repeat (first | (with_reducible first | exact HB.out | apply zG | apply zA | apply zF | refine zH ?_ GE1741.out) | exact HB.out))) : w.heap.size ≤ gb1746)); have n4_ := n3_; have n5_ := zC.mk ((by rw [hg]; exact Nat.ne_of_lt (zX (by (with_reducible repeat (first | refine zE ?_ _ | refine zI ?_ | refine zD ?_ _)); exact BK1741.out)) : gb1741 ≠ gb1746)); have n6_ := zC.mk n5_.out.symm; clear BK1741; clear HB; have BK1741 := n0_; have HB := n1_; have BK1746 := n2_; have GW1746 := n3_; have GE1746 := n4_; have NB1741_1746 := n5_; have NB1746_1741 := n6_; clear n0_ n1_ n2_ n3_ n4_ n5_ n6_; clear hb hbox hg; have hnb10 := NB1746_1741.out; have hnc10 := NB1741_1746.out; have hcz11_0 : w9.cell? ⟨gb1746, 0, none⟩ = some (.int .i64 0) := zB BK1746.out 0; have hcz11_1 : w9.cell? ⟨gb1746, 1, none⟩ = some (.int .i64 0) := zB BK1746.out 1; have hcz11_2 : w9.cell? ⟨gb1746, 2, none⟩ = some (.int .i64 0) := zB BK1746.out 2; have hfz11_0 := zJ BK1746.out 0; have hfz11_1 := zJ BK1746.out 1; have hfz11_2 := zJ BK1746.out 2))
 have H := HX5.out
 clear HX5
 by_cases c12 : t1745 = 0
 ·
  rw [if_pos c12] at H
  have c12b0 : (t1745 == 0) = true := beq_iff_eq.mpr c12
  have c12b1 : (t1745 != 0) = false := bne_eq_false_iff_eq.mpr c12
  clear c12
  (first | rw [c12b0] | (simp only [zQ, zR]; rw [c12b0]) | skip)
  have HC13 := zC.mk H
  clear H
  go_upto_region 4 with (fail)
  go_cut [26] (fun v26 wc => ∃ (kq : Nat) (x26_12 : Bool), v26 = .bool x26_12 ∧ zC (yW.j0 kq a1 x26_12 t1742 t1743 t1744 = some (r1, r2, r3)) ∧ zC (kq ≤ k) ∧ zC (wc.heap[gb1741]? = some (.cells #[.int .i64 a0_0, .int .i64 a0_1, .int .i64 a0_2, .int .i64 a0_3, (.slice A0_4 l0_4.length c0_4)] 30 (0, 0))) ∧ zC (wc.heap[gb1746]? = some (.cells #[.int .i64 t1742, .int .i64 t1743, .int .i64 t1744] 28 (0, 0))) ∧ zC (Below w.heap.size w wc))
  case first =>
   have H := HC13.out
   clear HC13
   replace H := Option.bind_eq_some_iff.mp H
   obtain ⟨t1747, A140, H⟩ := H
   replace H : (if t1747 = true then (yW.j0 k a1 (!a2) t1742 t1743 t1744) else (yW.j0 k a1 true t1742 t1743 t1744)) = some (r1, r2, r3) := H
   have A14 := zC.mk A140
   clear A140
   by_cases c15 : t1747 = true
   ·
    subst c15
    have H1 : (yW.j0 k a1 (!a2) t1742 t1743 t1744) = some (r1, r2, r3) := by rw [if_pos rfl] at H; exact H
    clear H
    have H := H1
    clear H1
    have H' := zC.mk H
    clear H
    go_wp2_with (first | ((with_reducible refine zS (f := 109) rfl ?_); refine zZ (some 21) rfl rfl Try.func109 (by kernel_rfl) rfl #[.int .i64 a1] rfl (by (try simp only [List.map_toArray, List.map_cons, List.map_nil]); first | done | rfl) ?_; (with_reducible refine (wA.calls a1 true _ A14.out).mono ?_); rintro e w' ⟨rfl, ⟨nd, rfl⟩⟩; refine ⟨_, rfl, ?_⟩))
    go_meet
    case rel => exact ⟨_, (!a2), (by first | rfl | (simp; done) | (simp [*]; done)), H', ⟨by first | omega | exact Nat.le_refl _⟩, ⟨by (with_reducible repeat (first | refine zE ?_ _ | refine zI ?_ | refine zD ?_ _)); refine zW ?_ NB1741_1746.out _; (with_reducible repeat (first | refine zE ?_ _ | refine zI ?_ | refine zD ?_ _)); refine zW ?_ NB1741_1746.out _; (with_reducible repeat (first | refine zE ?_ _ | refine zI ?_ | refine zD ?_ _)); refine zW ?_ NB1741_1746.out _; (with_reducible repeat (first | refine zE ?_ _ | refine zI ?_ | refine zD ?_ _)); exact BK1741.out⟩, ⟨by (with_reducible repeat (first | refine zE ?_ _ | refine zI ?_ | refine zD ?_ _)); refine zU (cs := #[.int .i64 t1742, .int .i64 t1743, .int .i64 0]) ?_ 2 _ rfl; (with_reducible repeat (first | refine zE ?_ _ | refine zI ?_ | refine zD ?_ _)); refine zU (cs := #[.int .i64 t1742, .int .i64 0, .int .i64 0]) ?_ 1 _ rfl; (with_reducible repeat (first | refine zE ?_ _ | refine zI ?_ | refine zD ?_ _)); refine zU (cs := #[.int .i64 0, .int .i64 0, .int .i64 0]) ?_ 0 _ rfl; (with_reducible repeat (first | refine zE ?_ _ | refine zI ?_ | refine zD ?_ _)); exact BK1746.out⟩, ⟨by repeat (first | (with_reducible first | exact HB.out | apply zG | apply zA | apply zF | refine zH ?_ GE1741.out | refine zH ?_ GE1746.out) | exact HB.out)⟩⟩
   ·
    replace c15 := Bool.eq_false_iff.mpr c15
    subst c15
    have H1 : (yW.j0 k a1 true t1742 t1743 t1744) = some (r1, r2, r3) := by rw [if_neg (show ¬ (false = true) by decide)] at H; exact H
    clear H
    have H := H1
    clear H1
    have H' := zC.mk H
    clear H
    go_wp2_with (first | ((with_reducible refine zS (f := 109) rfl ?_); refine zZ (some 21) rfl rfl Try.func109 (by kernel_rfl) rfl #[.int .i64 a1] rfl (by (try simp only [List.map_toArray, List.map_cons, List.map_nil]); first | done | rfl) ?_; (with_reducible refine (wA.calls a1 false _ A14.out).mono ?_); rintro e w' ⟨rfl, ⟨nd, rfl⟩⟩; refine ⟨_, rfl, ?_⟩))
    go_meet
    case rel => exact ⟨_, (true), (by first | rfl | (simp; done) | (simp [*]; done)), H', ⟨by first | omega | exact Nat.le_refl _⟩, ⟨by (with_reducible repeat (first | refine zE ?_ _ | refine zI ?_ | refine zD ?_ _)); refine zW ?_ NB1741_1746.out _; (with_reducible repeat (first | refine zE ?_ _ | refine zI ?_ | refine zD ?_ _)); refine zW ?_ NB1741_1746.out _; (with_reducible repeat (first | refine zE ?_ _ | refine zI ?_ | refine zD ?_ _)); refine zW ?_ NB1741_1746.out _; (with_reducible repeat (first | refine zE ?_ _ | refine zI ?_ | refine zD ?_ _)); exact BK1741.out⟩, ⟨by (with_reducible repeat (first | refine zE ?_ _ | refine zI ?_ | refine zD ?_ _)); refine zU (cs := #[.int .i64 t1742, .int .i64 t1743, .int .i64 0]) ?_ 2 _ rfl; (with_reducible repeat (first | refine zE ?_ _ | refine zI ?_ | refine zD ?_ _)); refine zU (cs := #[.int .i64 t1742, .int .i64 0, .int .i64 0]) ?_ 1 _ rfl; (with_reducible repeat (first | refine zE ?_ _ | refine zI ?_ | refine zD ?_ _)); refine zU (cs := #[.int .i64 0, .int .i64 0, .int .i64 0]) ?_ 0 _ rfl; (with_reducible repeat (first | refine zE ?_ _ | refine zI ?_ | refine zD ?_ _)); exact BK1746.out⟩, ⟨by repeat (first | (with_reducible first | exact HB.out | apply zG | apply zA | apply zF | refine zH ?_ GE1741.out | refine zH ?_ GE1746.out) | exact HB.out)⟩⟩
  case rest =>
   clear HC13
   try clear c1
   try clear p2
   try clear c10
   try clear c11
   try clear c12
   try clear c12b0
   try clear c12b1
   try clear c15
   try clear hcz11_0
   try clear hcz11_1
   try clear hcz11_2
   try clear hcz7_0
   try clear hcz7_1
   try clear hcz7_2
   try clear hcz7_3
   try clear hcz7_4
   try clear hfz11_0
   try clear hfz11_1
   try clear hfz11_2
   try clear hfz7_0
   try clear hfz7_1
   try clear hfz7_2
   try clear hfz7_3
   try clear hfz7_4
   obtain ⟨kq, x26_12, rfl, HA, HJ12, BK1741, BK1746, HB⟩ := hcut
   cases kq with
   | zero => exact absurd HA.out (by simp [yW.j0])
   | succ kj12 =>
    have H := HA.out
    clear HA
    simp only [yW.j0] at H
    by_cases c16 : x26_12 = true
    ·
     subst c16
     have H1 : (some (0, 0, 2)) = some (r1, r2, r3) := by rw [if_pos rfl] at H; exact H
     clear H
     have H := H1
     clear H1
     simp only [Option.some.injEq, Prod.mk.injEq] at H
     obtain ⟨rfl, rfl, rfl⟩ := H
     go_wp2
     go_ret3
     exact ⟨by first | rfl | (simp [*, errW_none, errW_some] <;> rfl), by repeat (first | (with_reducible first | exact HB.out | apply zG | apply zA | apply zF | refine zH ?_ GE1741.out | refine zH ?_ GE1746.out) | exact HB.out)⟩
    ·
     replace c16 := Bool.eq_false_iff.mpr c16
     subst c16
     have H1 : ((yO.f kj12 t1742 t1743 t1744 a1).bind fun t1748 => (if t1748 < 0 then (some (0, 0, 4)) else ((xC.f kj12 t1742 t1743 t1744).bind fun t1749 => (some (t1749, t1748, 0))))) = some (r1, r2, r3) := by rw [if_neg (show ¬ (false = true) by decide)] at H; exact H
     clear H
     have H := H1
     clear H1
     replace H := Option.bind_eq_some_iff.mp H
     obtain ⟨t1748, A170, H⟩ := H
     replace H : (if t1748 < 0 then (some (0, 0, 4)) else ((xC.f kj12 t1742 t1743 t1744).bind fun t1749 => (some (t1749, t1748, 0)))) = some (r1, r2, r3) := H
     have A17 := zC.mk A170
     clear A170
     have HX18 := zC.mk H
     clear H
     have hnb19 := NB1746_1741.out
     have hnc19 := NB1741_1746.out
     have hcz20_0 : wc.cell? ⟨gb1746, 0, none⟩ = some (.int .i64 t1742) := zB BK1746.out 0
     have hcz20_1 : wc.cell? ⟨gb1746, 1, none⟩ = some (.int .i64 t1743) := zB BK1746.out 1
     have hcz20_2 : wc.cell? ⟨gb1746, 2, none⟩ = some (.int .i64 t1744) := zB BK1746.out 2
     have hfz20_0 := zJ BK1746.out 0
     have hfz20_1 := zJ BK1746.out 1
     have hfz20_2 := zJ BK1746.out 2
     go_upto_if 31 with (first | ((with_reducible refine zS (f := 111) rfl ?_); refine zZ (some 29) rfl rfl Try.func111 (by kernel_rfl) rfl #[.agg #[.int .i64 t1742, .int .i64 t1743, .int .i64 t1744], .int .i64 a1] rfl (by (try simp only [List.map_toArray, List.map_cons, List.map_nil]); first | done | rfl) ?_; (with_reducible refine (yO.calls kj12 t1742 t1743 t1744 a1 t1748 _ A17.out).mono ?_); rintro e w21 ⟨rfl, hb⟩; refine ⟨_, rfl, ?_⟩; have n0_ := zC.mk (zK (g := gb1741) (o := .cells #[.int .i64 a0_0, .int .i64 a0_1, .int .i64 a0_2, .int .i64 a0_3, .slice A0_4 l0_4.length c0_4] 30 (0, 0)) (by (with_reducible repeat (first | refine zE ?_ _ | refine zI ?_ | refine zD ?_ _)); exact BK1741.out) hb); have n1_ := zC.mk (zK (g := gb1746) (o := .cells #[.int .i64 t1742, .int .i64 t1743, .int .i64 t1744] 28 (0, 0)) (by (with_reducible repeat (first | refine zE ?_ _ | refine zI ?_ | refine zD ?_ _)); exact BK1746.out) hb); have n2_ := zC.mk (zL (by repeat (first | (with_reducible first | exact HB.out | apply zG | apply zA | apply zF | refine zH ?_ GE1741.out | refine zH ?_ GE1746.out) | exact HB.out)) hb); clear BK1741; clear BK1746; clear HB; have BK1741 := n0_; have BK1746 := n1_; have HB := n2_; clear n0_ n1_ n2_; (try clear hb)))
     have H := HX18.out
     clear HX18
     by_cases c22 : t1748 < 0
     ·
      rw [if_pos c22] at H
      have c22b0 : decide (t1748 < 0) = true := decide_eq_true c22
      clear c22
      (first | rw [c22b0] | (simp only [zQ, zR]; rw [c22b0]) | skip)
      simp only [Option.some.injEq, Prod.mk.injEq] at H
      obtain ⟨rfl, rfl, rfl⟩ := H
      go_wp2
      go_ret3
      exact ⟨by first | rfl | (simp [*, errW_none, errW_some] <;> rfl), by repeat (first | (with_reducible first | exact HB.out | apply zG | apply zA | apply zF | refine zH ?_ GE1741.out | refine zH ?_ GE1746.out) | exact HB.out)⟩
     ·
      rw [if_neg c22] at H
      have c22b0 : decide (t1748 < 0) = false := decide_eq_false c22
      clear c22
      (first | rw [c22b0] | (simp only [zQ, zR]; rw [c22b0]) | skip)
      replace H := Option.bind_eq_some_iff.mp H
      obtain ⟨t1749, A230, H⟩ := H
      replace H : (some (t1749, t1748, 0)) = some (r1, r2, r3) := H
      have A23 := zC.mk A230
      clear A230
      simp only [Option.some.injEq, Prod.mk.injEq] at H
      obtain ⟨rfl, rfl, rfl⟩ := H
      have hnb24 := NB1746_1741.out
      have hnc24 := NB1741_1746.out
      have hcz25_0 : w21.cell? ⟨gb1746, 0, none⟩ = some (.int .i64 t1742) := zB BK1746.out 0
      have hcz25_1 : w21.cell? ⟨gb1746, 1, none⟩ = some (.int .i64 t1743) := zB BK1746.out 1
      have hcz25_2 : w21.cell? ⟨gb1746, 2, none⟩ = some (.int .i64 t1744) := zB BK1746.out 2
      have hfz25_0 := zJ BK1746.out 0
      have hfz25_1 := zJ BK1746.out 1
      have hfz25_2 := zJ BK1746.out 2
      go_wp2_with (first | ((with_reducible refine zS (f := 108) rfl ?_); refine zZ (some 33) rfl rfl Try.func108 (by kernel_rfl) rfl #[.agg #[.int .i64 t1742, .int .i64 t1743, .int .i64 t1744]] rfl (by (try simp only [List.map_toArray, List.map_cons, List.map_nil]); first | done | rfl) ?_; (with_reducible refine (xC.calls kj12 t1742 t1743 t1744 t1749 _ A23.out).mono ?_); rintro e w26 ⟨rfl, hb⟩; refine ⟨_, rfl, ?_⟩; have n0_ := zC.mk (zK (g := gb1741) (o := .cells #[.int .i64 a0_0, .int .i64 a0_1, .int .i64 a0_2, .int .i64 a0_3, .slice A0_4 l0_4.length c0_4] 30 (0, 0)) (by (with_reducible repeat (first | refine zE ?_ _ | refine zI ?_ | refine zD ?_ _)); exact BK1741.out) hb); have n1_ := zC.mk (zK (g := gb1746) (o := .cells #[.int .i64 t1742, .int .i64 t1743, .int .i64 t1744] 28 (0, 0)) (by (with_reducible repeat (first | refine zE ?_ _ | refine zI ?_ | refine zD ?_ _)); exact BK1746.out) hb); have n2_ := zC.mk (zL (by repeat (first | (with_reducible first | exact HB.out | apply zG | apply zA | apply zF | refine zH ?_ GE1741.out | refine zH ?_ GE1746.out) | exact HB.out)) hb); clear BK1741; clear BK1746; clear HB; have BK1741 := n0_; have BK1746 := n1_; have HB := n2_; clear n0_ n1_ n2_; (try clear hb)))
      go_ret3
      exact ⟨by first | rfl | (simp [*, errW_none, errW_some] <;> rfl), by repeat (first | (with_reducible first | exact HB.out | apply zG | apply zA | apply zF | refine zH ?_ GE1741.out | refine zH ?_ GE1746.out) | exact HB.out)⟩
 ·
  rw [if_neg c12] at H
  have c12b0 : (t1745 == 0) = false := beq_eq_false_iff_ne.mpr c12
  have c12b1 : (t1745 != 0) = true := bne_iff_ne.mpr c12
  (first | rw [c12b0] | (simp only [zQ, zR]; rw [c12b0]) | skip)
  simp only [Option.some.injEq, Prod.mk.injEq] at H
  obtain ⟨rfl, rfl, rfl⟩ := H
  go_wp2
  go_ret3
  exact ⟨by first | rfl | (simp [*, errW_none, errW_some] <;> rfl), by repeat (first | (with_reducible first | exact HB.out | apply zG | apply zA | apply zF | refine zH ?_ GE1741.out | refine zH ?_ GE1746.out) | exact HB.out)⟩
theorem yR.calls (k : Nat) (a0 : Int) (a1 : Int) (a2 : Int) (a3 : Int) (r : List Int) (w : World) (h : yR.f k a0 a1 a2 a3 = some r) :
  Calls Try.prog 115 #[.int .i64 a0, .int .i64 a1, .int .i64 a2, .int .i64 a3] w fun e w' => ∃ v0_ : Value, e = .returned (v0_) ∧ Kd.R (Kd.int .i64) 2 w' w.heap.size (fun _ => True) v0_ r ∧ Below w.heap.size w w' := by
 have HB := zC.mk (Below.refl w.heap.size w)
 have H : (yR.l0 k a0 a1 a2 a3 (([0] : List Int)) 1) = some r := h
 clear h
 obtain ⟨y1817, hy1817⟩ : ∃ y_ : List Int, y_ = (([0] : List Int)) := ⟨_, rfl⟩
 replace H : (yR.l0 k a0 a1 a2 a3 y1817 1) = some r := by first | (rw [hy1817]; with_reducible exact H) | (have H2_ := (Option.bind_some _ _).symm.trans H; rw [hy1817]; with_reducible exact H2_) | (have H2_ := (Option.bind_some _ _).symm.trans H; with_reducible exact H2_) | with_reducible exact H | (rw [hy1817]; exact H) | exact H
 have Ny1817 := zC.mk hy1817
 clear hy1817
 have H' := zC.mk H
 clear H
 go_enter Try.func115, Try.ntmps115
 go_wp2_with (first | ((with_reducible refine zP (N := 12) rfl ?_); refine Kd.R_lit (Kd.int .i64) _ 2 ?hg (N := 12) ?hd (xs := ([0] : List Int)) (inner := [.int .i64 0]) (ok := fun _ => True) (okp := fun _ => True) ?hr ?hp (fun _ hk => hk) trivial (Below.refl _ _) (Nat.le_refl _) (by simp) ?_; (case hd => rfl); (case hg => rfl); (case hr => first | (go_simp; done) | (go_simp; rfl)); (case hp => exact (Reps.one (show Kd.M (Kd.int .i64) _ _ _ 0 [.int .i64 0] from rfl) (Reps.none _ _))); intro v1818 w5 ho6 hb hg_ hnew_; clear hg_ hnew_; (first | rw [← Ny1817.out] at ho6 | (simp only [Int.reduceToNat] at ho6; rw [← Ny1817.out] at ho6)); have n0_ := zC.mk (Kd.R_lower ho6 (zM (by repeat (first | (with_reducible first | exact HB.out | apply zG | apply zA | apply zF) | exact HB.out)))); have n1_ := zC.mk (zL (by repeat (first | (with_reducible first | exact HB.out | apply zG | apply zA | apply zF) | exact HB.out)) hb); clear HB; have HO1819 := n0_; have HB := n1_; clear n0_ n1_; clear hb ho6))
 go_loopg [9, 10] k (fun kq v9 v10 w' => ∃ (x9_1 : List Int) (x10_1 : Int), v10 = .int .i64 x10_1 ∧ zC (yR.l0 kq a0 a1 a2 a3 x9_1 x10_1 = some r) ∧ zC (kq ≤ k) ∧ zC (Kd.R (Kd.int .i64) 2 w' w.heap.size (fun _ => True) v9 x9_1) ∧ zC (Below w.heap.size w w'))
 case atStart => exact ⟨(y1817), (1), (by first | rfl | (simp; done) | (simp [*]; done)), H', ⟨Nat.le_refl _⟩, ⟨by (with_reducible repeat (first | apply Kd.R_alloc | apply Kd.R_drewN | apply Kd.R_drew)); exact HO1819.out⟩, ⟨by repeat (first | (with_reducible first | exact HB.out | apply zG | apply zA | apply zF) | exact HB.out)⟩⟩
 case round =>
  clear H'
  try clear c1
  try clear p2
  obtain ⟨x9_1, x10_1, rfl, HA, HK1, HO_9, HB⟩ := hrel
  cases gk with
  | zero => exact absurd HA.out (by simp [yR.l0])
  | succ k1 =>
   have H := HA.out
   clear HA
   simp only [yR.l0] at H
   by_cases c7 : x10_1 < a3
   ·
    rw [if_pos c7] at H
    have c7b0 : decide (x10_1 < a3) = true := decide_eq_true c7
    clear c7
    obtain ⟨ji8, hji8⟩ : ∃ j_ : Int, (wrap64 (x10_1 - 1)) = j_ := ⟨_, rfl⟩
    replace H : (if 0 ≤ (ji8) then (if (ji8) < (x9_1.length : Int) then ((wE.f (wrap64 ((wrap64 (x10_1 * a1)) - (wrap64 ((rd x9_1 (ji8)) + a2)))) a0).bind fun t1821 => (if x9_1.length < 17592186044416 then (yR.l0 k1 a0 a1 a2 a3 (x9_1 ++ [wrap64 ((wrap64 ((rd x9_1 (ji8)) + a2)) + t1821)]) (wrap64 (x10_1 + 1))) else (none))) else (none)) else (none)) = some r := by first | (rw [hji8] at H; exact H) | (simp only [hji8] at H ⊢; exact H)
    have hji8w : (IntKind.i64.wrap (x10_1 - 1)) = ji8 := (zQ _).trans hji8
    by_cases c9 : 0 ≤ (ji8)
    ·
     rw [if_pos c9] at H
     have c9b0 : decide (0 ≤ (ji8)) = true := decide_eq_true c9
     clear c9
     by_cases c10 : (ji8) < (x9_1.length : Int)
     ·
      rw [if_pos c10] at H
      have c10b0 : decide ((ji8) < (x9_1.length : Int)) = true := decide_eq_true c10
      clear c10
      replace H := Option.bind_eq_some_iff.mp H
      obtain ⟨t1821, A110, H⟩ := H
      replace H : (if x9_1.length < 17592186044416 then (yR.l0 k1 a0 a1 a2 a3 (x9_1 ++ [wrap64 ((wrap64 ((rd x9_1 (ji8)) + a2)) + t1821)]) (wrap64 (x10_1 + 1))) else (none)) = some r := H
      have A11 := zC.mk A110
      clear A110
      by_cases c12 : x9_1.length < 17592186044416
      ·
       rw [if_pos c12] at H
       have LMc12 := zC.mk c12
       clear c12
       obtain ⟨y1822, hy1822⟩ : ∃ y_ : List Int, y_ = (x9_1 ++ [wrap64 ((wrap64 ((rd x9_1 (ji8)) + a2)) + t1821)]) := ⟨_, rfl⟩
       replace H : (yR.l0 k1 a0 a1 a2 a3 y1822 (wrap64 (x10_1 + 1))) = some r := by first | (rw [hy1822]; with_reducible exact H) | (have H2_ := (Option.bind_some _ _).symm.trans H; rw [hy1822]; with_reducible exact H2_) | (have H2_ := (Option.bind_some _ _).symm.trans H; with_reducible exact H2_) | with_reducible exact H | (rw [hy1822]; exact H) | exact H
       have Ny1822 := zC.mk hy1822
       clear hy1822
       have H' := zC.mk H
       clear H
       obtain ⟨Ao13, co13, eo13⟩ := Kd.R_slice HO_9.out
       subst eo13
       have p1820 : 0 ≤ ((ji8) : Int) := of_decide_eq_true (by first | (with_reducible assumption) | assumption)
       have q1820 : (ji8) < (x9_1.length : Int) := of_decide_eq_true (by first | (with_reducible assumption) | assumption)
       obtain ⟨ad1820, e1820, hx1820_0⟩ := Kd.at_int (Kd.R_reads' HO_9.out).2.2 (ji8) p1820 q1820
       cases e1820
       replace p1820 := eq_true p1820
       replace q1820 := eq_true q1820
       go_wp2_with (first | ((with_reducible refine zS (f := 157) rfl ?_); refine zZ (some 33) rfl rfl Try.func157 (by kernel_rfl) rfl #[.int .i64 (wrap64 ((wrap64 (x10_1 * a1)) - (wrap64 ((rd x9_1 (ji8)) + a2)))), .int .i64 a0] rfl (by (try simp only [List.map_toArray, List.map_cons, List.map_nil]); first | done | (simp only [hji8]; rfl) | rfl | (simp only [List.length_drop, List.length_take]; rfl)) ?_; (with_reducible refine (wE.calls (wrap64 ((wrap64 (x10_1 * a1)) - (wrap64 ((rd x9_1 (ji8)) + a2)))) a0 t1821 _ A11.out).mono ?_); rintro e w' ⟨rfl, ⟨nd, rfl⟩⟩; refine ⟨_, rfl, ?_⟩) | ((with_reducible refine gate_builtin (b := .append) (xs := #[.tmp 25, .tmp 35]) rfl ?_); at_builtin; refine Kd.R_append (Kd.int .i64) (w0 := w) w.heap.size rfl (.tmp 25) (.tmp 35) 24 2 (.int .i64 0) 8 rfl Try.underlying24 info2 rfl (by decide) (by omega) (.slice (some ad1820) x9_1.length co13) x9_1 (wrap64 ((wrap64 ((rd x9_1 (ji8)) + a2)) + t1821)) [.int .i64 (wrap64 ((wrap64 ((rd x9_1 (ji8)) + a2)) + t1821))] (fun _ => True) (fun _ => False) rfl rfl ?aP (fun _ hk => hk.elim) ?aF ?aO ?aB ?aS ?aL ?_; (case aP => exact rfl); (case aB => exact (by repeat (first | (with_reducible first | exact HB.out | apply zG | apply zA | apply zF) | exact HB.out))); (case aF => exact (fun _ _ => trivial)); (case aO => exact (by (with_reducible repeat (first | apply Kd.R_alloc | apply Kd.R_drewN | apply Kd.R_drew)); exact HO_9.out)); (case aS => exact (zM (by repeat (first | (with_reducible first | exact HB.out | apply zG | apply zA | apply zF) | exact HB.out)))); (case aL => have := LMc12.out; omega); intro v1823 w14 ho hb hg hat; rw [← Ny1822.out] at ho; have n0_ := zC.mk (hb); have n1_ := zC.mk (ho); clear HB; clear HO_9; have HB := n0_; have HO1824 := n1_; clear n0_ n1_; clear ho hb hg hat))
       go_roundg k1
       case measure => have := HK1.out; omega
       case rel => exact ⟨(y1822), (wrap64 (x10_1 + 1)), (by first | rfl | (simp; done) | (simp [*]; done)), H', ⟨by have := HK1.out; omega⟩, ⟨by (with_reducible repeat (first | apply Kd.R_alloc | apply Kd.R_drewN | apply Kd.R_drew)); exact HO1824.out⟩, ⟨by repeat (first | (with_reducible first | exact HB.out | apply zG | apply zA | apply zF) | exact HB.out)⟩⟩
      ·
       rw [if_neg c12] at H
       exact absurd H (by simp)
     ·
      rw [if_neg c10] at H
      exact absurd H (by simp)
    ·
     rw [if_neg c9] at H
     exact absurd H (by simp)
   ·
    rw [if_neg c7] at H
    have c7b0 : decide (x10_1 < a3) = false := decide_eq_false c7
    clear c7
    obtain rfl := Option.some.inj H
    go_wp2
    go_ret
    exact ⟨_, by first | rfl | (simp [*, errW_none, errW_some] <;> rfl), by (with_reducible repeat (first | apply Kd.R_alloc | apply Kd.R_drewN | apply Kd.R_drew)); exact HO_9.out, by repeat (first | (with_reducible first | exact HB.out | apply zG | apply zA | apply zF) | exact HB.out)⟩
def yH.T1 : Bool × List (List Nat × List Nat) := (true, [([], []), ([], []), ([], []), ([2], [2]), ([3, 3], [3]), ([4], [4]), ([5, 4, 4], [4, 5]), ([4, 6], [4, 6]), ([0, 1, 7, 6], [0, 1, 7]), ([8], [8]), ([9], [9]), ([9], [9]), ([9], [9]), ([10, 8, 0, 1, 2, 3, 4, 5, 6, 7, 8, 9, 10], [10]), ([11, 13, 0, 1, 2, 3, 4, 5, 6, 7, 8, 9, 10, 11, 13], [11]), ([12, 14, 0, 1, 2, 3, 4, 5, 6, 7, 8, 9, 10, 11, 12, 13, 14], [12])])
def yH.B1 : List Nat := [0, 0, 0, 4, 12, 28, 60, 124, 255, 511, 1023, 1023, 1023, 2047, 12287, 32767]
theorem yH.tab1 : rtab .any (opsOf Try.f55 1) = yH.T1 := by kernel_rfl
theorem yH.bits1 : waitsOk yH.T1.2 yH.B1 = true := by kernel_rfl
theorem yH.calls (k : Nat) (a0_0 : Int) (a0_1 : Int) (a0_2 : Int) (a0_3 : Int) (A0_4 : Option Addr) (c0_4 : Nat) (l0_4 : List Int) (a1 : Int) (a2 : Int) (a3 : Int) (r1 : Int) (r2 : Int) (w : World) (hr0_4 : Kd.C (Kd.int .i64) w A0_4 l0_4.length l0_4) (hc0_4 : l0_4.length ≤ c0_4) (h : yH.f k a0_0 a0_1 a0_2 a0_3 l0_4 a1 a2 a3 = some (r1, r2)) :
  Calls Try.prog 55 #[.agg #[.int .i64 a0_0, .int .i64 a0_1, .int .i64 a0_2, .int .i64 a0_3, .slice A0_4 l0_4.length c0_4], .int .i64 a1, .int .i64 a2, .int .i64 a3] w fun e w' => e = .returned (.tuple #[.int .i64 r1, .int .i64 r2]) ∧ Below w.heap.size w w' := by
 have hu30 := Try.underlying30
 have HR0_4 := zC.mk hr0_4
 have HC0_4 := zC.mk hc0_4
 clear hr0_4 hc0_4
 have HB := zC.mk (Below.refl w.heap.size w)
 have H : ((wA.f a2).bind fun t1826 => (if t1826 = true then ((xM.f a3 0 100000).bind fun t1827 => ((yW.f k a0_0 a0_1 a0_2 a0_3 l0_4 a1 t1827).bind fun bt1828 => (yH.j0 k a2 a3 bt1828.1 bt1828.2.1 bt1828.2.2))) else ((yW.f k a0_0 a0_1 a0_2 a0_3 l0_4 a1 false).bind fun bt1831 => (yH.j0 k a2 a3 bt1831.1 bt1831.2.1 bt1831.2.2)))) = some (r1, r2) := h
 clear h
 have HC5 := zC.mk H
 clear H
 go_enter Try.func55, Try.ntmps55
 go_upto_region 1 with (first | ((with_reducible refine zP (N := 4) rfl ?_); refine zO ?hg (N := 4) ?hd (cs := #[.int .i64 a0_0, .int .i64 a0_1, .int .i64 a0_2, .int .i64 a0_3, .slice A0_4 l0_4.length c0_4]) (t := 30) ?hr ?_; (case hd => rfl); (case hg => rfl); (case hr => first | (go_simp; done) | (go_simp; rfl)); intro gb1825 hg w6 hbox hb; have n0_ := zC.mk (zL (by repeat (first | (with_reducible first | exact HB.out | apply zG | apply zA | apply zF) | exact HB.out)) hb); have n1_ := zC.mk (hbox); have n2_ := zC.mk ((by rw [hg]; exact (zM (by repeat (first | (with_reducible first | exact HB.out | apply zG | apply zA | apply zF) | exact HB.out))) : w.heap.size ≤ gb1825)); have n3_ := n2_; clear HB; have HB := n0_; have BK1825 := n1_; have GW1825 := n2_; have GE1825 := n3_; clear n0_ n1_ n2_ n3_; clear hb hbox hg))
 (try simp only [Act.put, List.setIfInBounds_toArray, List.set_cons_zero, List.set_cons_succ])
 go_cut [10, 11, 12] (fun v10 v11 v12 wc => ∃ (kq : Nat) (x10_4 : Int) (x11_4 : Int) (x12_4 : Int), v10 = .int .i64 x10_4 ∧ v11 = .int .i64 x11_4 ∧ v12 = .int .i64 x12_4 ∧ zC (yH.j0 kq a2 a3 x10_4 x11_4 x12_4 = some (r1, r2)) ∧ zC (kq ≤ k) ∧ zC (wc.heap[gb1825]? = some (.cells #[.int .i64 a0_0, .int .i64 a0_1, .int .i64 a0_2, .int .i64 a0_3, (.slice A0_4 l0_4.length c0_4)] 30 (0, 0))) ∧ zC (Below w.heap.size w wc))
 case first =>
  have H := HC5.out
  clear HC5
  replace H := Option.bind_eq_some_iff.mp H
  obtain ⟨t1826, A70, H⟩ := H
  replace H : (if t1826 = true then ((xM.f a3 0 100000).bind fun t1827 => ((yW.f k a0_0 a0_1 a0_2 a0_3 l0_4 a1 t1827).bind fun bt1828 => (yH.j0 k a2 a3 bt1828.1 bt1828.2.1 bt1828.2.2))) else ((yW.f k a0_0 a0_1 a0_2 a0_3 l0_4 a1 false).bind fun bt1831 => (yH.j0 k a2 a3 bt1831.1 bt1831.2.1 bt1831.2.2))) = some (r1, r2) := H
  have A7 := zC.mk A70
  clear A70
  by_cases c8 : t1826 = true
  ·
   subst c8
   have H1 : ((xM.f a3 0 100000).bind fun t1827 => ((yW.f k a0_0 a0_1 a0_2 a0_3 l0_4 a1 t1827).bind fun bt1828 => (yH.j0 k a2 a3 bt1828.1 bt1828.2.1 bt1828.2.2))) = some (r1, r2) := by rw [if_pos rfl] at H; exact H
   clear H
   have H := H1
   clear H1
   replace H := Option.bind_eq_some_iff.mp H
   obtain ⟨t1827, A90, H⟩ := H
   replace H : ((yW.f k a0_0 a0_1 a0_2 a0_3 l0_4 a1 t1827).bind fun bt1828 => (yH.j0 k a2 a3 bt1828.1 bt1828.2.1 bt1828.2.2)) = some (r1, r2) := H
   have A9 := zC.mk A90
   clear A90
   replace H := Option.bind_eq_some_iff.mp H
   obtain ⟨⟨t1828, t1829, t1830⟩, A100, H⟩ := H
   replace H : (yH.j0 k a2 a3 t1828 t1829 t1830) = some (r1, r2) := H
   have A10 := zC.mk A100
   clear A100
   have H' := zC.mk H
   clear H
   try go_wp2
   have n0_ := zC.mk (zI BK1825.out)
   have n1_ := zC.mk (zF HB.out)
   clear BK1825
   clear HB
   have BK1825 := n0_
   have HB := n1_
   clear n0_ n1_
   refine start_ (n := 16) (S := fun w' => w'.cell? ⟨gb1825, 0, none⟩ = some (.int .i64 a0_0) ∧ w'.cell? ⟨gb1825, 1, none⟩ = some (.int .i64 a0_1) ∧ w'.cell? ⟨gb1825, 2, none⟩ = some (.int .i64 a0_2) ∧ w'.cell? ⟨gb1825, 3, none⟩ = some (.int .i64 a0_3) ∧ w'.cell? ⟨gb1825, 4, none⟩ = some (.slice A0_4 l0_4.length c0_4)) (ds := []) #[false, false, false, false, false, false, false, false, false, false, false, false, false, false, false, false] (by kernel_rfl) rfl rfl ⟨zB BK1825.out 0, zB BK1825.out 1, zB BK1825.out 2, zB BK1825.out 3, zB BK1825.out 4⟩ (fun hHeld => ?_); refine yE yH.tab1 yH.bits1 (fun HT_ HW_ => ?_)
   generalize w6.drew = w11 at BK1825 HB hHeld ⊢
   refine zT (i := 1) (N := some 18) (v := ?_) (a' := ?_) #[false, true, false, false, false, false, false, false, false, false, false, false, false, false, false, false] rfl rfl (zN HT_.out (by kernel_rfl)) (fun _ _ _ h => h) (Or.inl ⟨by rfl, ?_⟩) ?_ ?_
   rotate_left
   ·
    intro w'
    go_simp
    with_reducible rfl
   rotate_left
   ·
    simp only [Act.put, List.setIfInBounds_toArray, List.set_cons_zero, List.set_cons_succ, zQ, zR]
    rfl
   refine zT (i := 2) (N := some 19) (v := ?_) (a' := ?_) #[false, true, true, false, false, false, false, false, false, false, false, false, false, false, false, false] rfl rfl (zN HT_.out (by kernel_rfl)) (fun _ _ _ h => h) (Or.inl ⟨by rfl, ?_⟩) ?_ ?_
   rotate_left
   ·
    intro w'
    go_simp
    with_reducible rfl
   rotate_left
   ·
    simp only [Act.put, List.setIfInBounds_toArray, List.set_cons_zero, List.set_cons_succ, zQ, zR]
    rfl
   refine yC (i := 0) (N := some 17) (v := ?_) (a' := ?_) #[true, true, true, false, false, false, false, false, false, false, false, false, false, false, false, false] rfl rfl (zY HT_.out HW_.out (by kernel_rfl)) (fun _ _ _ h => h) (Or.inl ⟨by rfl, ?_⟩) hHeld ?_ ?_
   rotate_left
   ·
    rintro w' ⟨s0, s1, s2, s3, s4⟩
    go_simp
    with_reducible rfl
   rotate_left
   ·
    simp only [Act.put, List.setIfInBounds_toArray, List.set_cons_zero, List.set_cons_succ, zQ, zR]
    rfl
   refine one_ (i := 3) (N := some 20) #[true, true, true, true, false, false, false, false, false, false, false, false, false, false, false, false] rfl rfl (yB HT_.out (by kernel_rfl)) (by decide) (fun K hK => ?_)
   refine yD Try.func109 (by kernel_rfl) rfl #[.int .i64 a2] (by rfl) rfl rfl (by (try simp only [List.map_toArray, List.map_cons, List.map_nil]); first | done | rfl) ?_
   with_reducible refine (wA.calls a2 true _ A7.out).mono ?_
   rintro e w' ⟨rfl, ⟨nd, rfl⟩⟩
   refine ⟨_, rfl, ?_⟩
   refine hK.out _ _ ⟨zB BK1825.out 0, zB BK1825.out 1, zB BK1825.out 2, zB BK1825.out 3, zB BK1825.out 4⟩ (fun hHeld => ?_)
   clear hK K
   refine yA (a' := ?_) ?_ ?_
   rotate_left
   ·
    show Act.put _ (some 20) _ = _
    simp only [Act.put, List.setIfInBounds_toArray, List.set_cons_zero, List.set_cons_succ, zQ, zR]
    rfl
   refine zT (i := 4) (N := some 21) (v := ?_) (a' := ?_) #[true, true, true, true, true, false, false, false, false, false, false, false, false, false, false, false] rfl rfl (zN HT_.out (by kernel_rfl)) (fun _ _ _ h => h) (Or.inl ⟨by rfl, ?_⟩) ?_ ?_
   rotate_left
   ·
    intro w'
    go_simp
    with_reducible rfl
   rotate_left
   ·
    simp only [Act.put, List.setIfInBounds_toArray, List.set_cons_zero, List.set_cons_succ, zQ, zR]
    rfl
   refine zT (i := 5) (N := some 22) (v := ?_) (a' := ?_) #[true, true, true, true, true, true, false, false, false, false, false, false, false, false, false, false] rfl rfl (zN HT_.out (by kernel_rfl)) (fun _ _ _ h => h) (Or.inl ⟨by rfl, ?_⟩) ?_ ?_
   rotate_left
   ·
    intro w'
    go_simp
    with_reducible rfl
   rotate_left
   ·
    simp only [Act.put, List.setIfInBounds_toArray, List.set_cons_zero, List.set_cons_succ, zQ, zR]
    rfl
   refine one_ (i := 6) (N := some 23) #[true, true, true, true, true, true, true, false, false, false, false, false, false, false, false, false] rfl rfl (yB HT_.out (by kernel_rfl)) (by decide) (fun K hK => ?_)
   refine yD Try.func114 (by kernel_rfl) rfl #[.int .i64 a3, .int .i64 0, .int .i64 100000] (by rfl) rfl rfl (by (try simp only [List.map_toArray, List.map_cons, List.map_nil]); first | done | rfl) ?_
   with_reducible refine (xM.calls a3 0 100000 t1827 _ A9.out).mono ?_
   rintro e w' ⟨rfl, ⟨nd, rfl⟩⟩
   refine ⟨_, rfl, ?_⟩
   refine hK.out _ _ ⟨zB BK1825.out 0, zB BK1825.out 1, zB BK1825.out 2, zB BK1825.out 3, zB BK1825.out 4⟩ (fun hHeld => ?_)
   clear hK K
   refine yA (a' := ?_) ?_ ?_
   rotate_left
   ·
    show Act.put _ (some 23) _ = _
    simp only [Act.put, List.setIfInBounds_toArray, List.set_cons_zero, List.set_cons_succ, zQ, zR]
    rfl
   refine zT (i := 7) (N := some 24) (v := ?_) (a' := ?_) #[true, true, true, true, true, true, true, true, false, false, false, false, false, false, false, false] rfl rfl (zN HT_.out (by kernel_rfl)) (fun _ _ _ h => h) (Or.inl ⟨by rfl, ?_⟩) ?_ ?_
   rotate_left
   ·
    intro w'
    go_simp
    with_reducible rfl
   rotate_left
   ·
    simp only [Act.put, List.setIfInBounds_toArray, List.set_cons_zero, List.set_cons_succ, zQ, zR]
    rfl
   refine one_ (i := 8) (N := some 25) #[true, true, true, true, true, true, true, true, true, false, false, false, false, false, false, false] rfl rfl (yB HT_.out (by kernel_rfl)) (by decide) (fun K hK => ?_)
   refine yD Try.func112 (by kernel_rfl) rfl #[.agg #[.int .i64 a0_0, .int .i64 a0_1, .int .i64 a0_2, .int .i64 a0_3, .slice A0_4 l0_4.length c0_4], .int .i64 a1, .bool t1827] (by rfl) rfl rfl (by (try simp only [List.map_toArray, List.map_cons, List.map_nil]); first | done | rfl) ?_
   with_reducible refine (yW.calls k a0_0 a0_1 a0_2 a0_3 _ _ l0_4 a1 t1827 t1828 t1829 t1830 _ ?side1 ?side2 A10.out).mono ?_
   (case side1 => repeat (first | exact (Kd.C_below HR0_4.out (by repeat (first | (with_reducible first | exact HB.out | apply zG | apply zA | apply zF | refine zH ?_ GE1825.out) | exact HB.out))) | (with_reducible refine Kd.C_alloc ?_ _) | (with_reducible refine Kd.C_drewN ?_ _) | (with_reducible refine Kd.C_drew ?_)))
   (case side2 => exact HC0_4.out)
   rintro e w12 ⟨rfl, hb⟩
   refine ⟨_, rfl, ?_⟩
   have n0_ := zC.mk (zK (g := gb1825) (o := .cells #[.int .i64 a0_0, .int .i64 a0_1, .int .i64 a0_2, .int .i64 a0_3, .slice A0_4 l0_4.length c0_4] 30 (0, 0)) (by (with_reducible repeat (first | refine zE ?_ _ | refine zI ?_ | refine zD ?_ _)); exact BK1825.out) hb)
   have n1_ := zC.mk (zL (by repeat (first | (with_reducible first | exact HB.out | apply zG | apply zA | apply zF | refine zH ?_ GE1825.out) | exact HB.out)) hb)
   clear BK1825
   clear HB
   have BK1825 := n0_
   have HB := n1_
   clear n0_ n1_
   (try clear hb)
   refine hK.out _ _ ⟨zB BK1825.out 0, zB BK1825.out 1, zB BK1825.out 2, zB BK1825.out 3, zB BK1825.out 4⟩ (fun hHeld => ?_)
   clear hK K
   refine yA (a' := ?_) ?_ ?_
   rotate_left
   ·
    show Act.put _ (some 25) _ = _
    simp only [Act.put, List.setIfInBounds_toArray, List.set_cons_zero, List.set_cons_succ, zQ, zR]
    rfl
   refine zT (i := 9) (N := some 16) (v := ?_) (a' := ?_) #[true, true, true, true, true, true, true, true, true, true, false, false, false, false, false, false] rfl rfl (zN HT_.out (by kernel_rfl)) (fun _ _ _ h => h) (Or.inl ⟨by rfl, ?_⟩) ?_ ?_
   rotate_left
   ·
    intro w'
    go_simp
    with_reducible rfl
   rotate_left
   ·
    simp only [Act.put, List.setIfInBounds_toArray, List.set_cons_zero, List.set_cons_succ, zQ, zR]
    rfl
   refine zT (i := 10) (N := some 26) (v := ?_) (a' := ?_) #[true, true, true, true, true, true, true, true, true, true, true, false, false, false, false, false] rfl rfl (zN HT_.out (by kernel_rfl)) (fun _ _ _ h => h) (Or.inl ⟨by rfl, ?_⟩) ?_ ?_
   rotate_left
   ·
    intro w'
    go_simp
    with_reducible rfl
   rotate_left
   ·
    simp only [Act.put, List.setIfInBounds_toArray, List.set_cons_zero, List.set_cons_succ, zQ, zR]
    rfl
   refine zT (i := 11) (N := some 27) (v := ?_) (a' := ?_) #[true, true, true, true, true, true, true, true, true, true, true, true, false, false, false, false] rfl rfl (zN HT_.out (by kernel_rfl)) (fun _ _ _ h => h) (Or.inl ⟨by rfl, ?_⟩) ?_ ?_
   rotate_left
   ·
    intro w'
    go_simp
    with_reducible rfl
   rotate_left
   ·
    simp only [Act.put, List.setIfInBounds_toArray, List.set_cons_zero, List.set_cons_succ, zQ, zR]
    rfl
   refine zT (i := 12) (N := some 28) (v := ?_) (a' := ?_) #[true, true, true, true, true, true, true, true, true, true, true, true, true, false, false, false] rfl rfl (zN HT_.out (by kernel_rfl)) (fun _ _ _ h => h) (Or.inl ⟨by rfl, ?_⟩) ?_ ?_
   rotate_left
   ·
    intro w'
    go_simp
    with_reducible rfl
   rotate_left
   ·
    simp only [Act.put, List.setIfInBounds_toArray, List.set_cons_zero, List.set_cons_succ, zQ, zR]
    rfl
   refine zT (i := 13) (N := some 10) (v := ?_) (a' := ?_) #[true, true, true, true, true, true, true, true, true, true, true, true, true, true, false, false] rfl rfl (zN HT_.out (by kernel_rfl)) (fun _ _ _ h => h) (Or.inl ⟨by rfl, ?_⟩) ?_ ?_
   rotate_left
   ·
    intro w'
    go_simp
    with_reducible rfl
   rotate_left
   ·
    simp only [Act.put, List.setIfInBounds_toArray, List.set_cons_zero, List.set_cons_succ, zQ, zR]
    rfl
   refine zT (i := 14) (N := some 11) (v := ?_) (a' := ?_) #[true, true, true, true, true, true, true, true, true, true, true, true, true, true, true, false] rfl rfl (zN HT_.out (by kernel_rfl)) (fun _ _ _ h => h) (Or.inl ⟨by rfl, ?_⟩) ?_ ?_
   rotate_left
   ·
    intro w'
    go_simp
    with_reducible rfl
   rotate_left
   ·
    simp only [Act.put, List.setIfInBounds_toArray, List.set_cons_zero, List.set_cons_succ, zQ, zR]
    rfl
   refine zT (i := 15) (N := some 12) (v := ?_) (a' := ?_) #[true, true, true, true, true, true, true, true, true, true, true, true, true, true, true, true] rfl rfl (zN HT_.out (by kernel_rfl)) (fun _ _ _ h => h) (Or.inl ⟨by rfl, ?_⟩) ?_ ?_
   rotate_left
   ·
    intro w'
    go_simp
    with_reducible rfl
   rotate_left
   ·
    simp only [Act.put, List.setIfInBounds_toArray, List.set_cons_zero, List.set_cons_succ, zQ, zR]
    rfl
   refine done_ (done_of HT_.out (by kernel_rfl)) ?_
   try go_wp2
   go_meet
   case rel => exact ⟨_, (t1828), (t1829), (t1830), (by first | rfl | (simp; done) | (simp [*]; done)), (by first | rfl | (simp; done) | (simp [*]; done)), (by first | rfl | (simp; done) | (simp [*]; done)), H', ⟨by first | omega | exact Nat.le_refl _⟩, ⟨by (with_reducible repeat (first | refine zE ?_ _ | refine zI ?_ | refine zD ?_ _)); exact BK1825.out⟩, ⟨by repeat (first | (with_reducible first | exact HB.out | apply zG | apply zA | apply zF | refine zH ?_ GE1825.out) | exact HB.out)⟩⟩
  ·
   replace c8 := Bool.eq_false_iff.mpr c8
   subst c8
   have H1 : ((yW.f k a0_0 a0_1 a0_2 a0_3 l0_4 a1 false).bind fun bt1831 => (yH.j0 k a2 a3 bt1831.1 bt1831.2.1 bt1831.2.2)) = some (r1, r2) := by rw [if_neg (show ¬ (false = true) by decide)] at H; exact H
   clear H
   have H := H1
   clear H1
   replace H := Option.bind_eq_some_iff.mp H
   obtain ⟨⟨t1831, t1832, t1833⟩, A130, H⟩ := H
   replace H : (yH.j0 k a2 a3 t1831 t1832 t1833) = some (r1, r2) := H
   have A13 := zC.mk A130
   clear A130
   have H' := zC.mk H
   clear H
   try go_wp2
   have n0_ := zC.mk (zI BK1825.out)
   have n1_ := zC.mk (zF HB.out)
   clear BK1825
   clear HB
   have BK1825 := n0_
   have HB := n1_
   clear n0_ n1_
   refine start_ (n := 16) (S := fun w' => w'.cell? ⟨gb1825, 0, none⟩ = some (.int .i64 a0_0) ∧ w'.cell? ⟨gb1825, 1, none⟩ = some (.int .i64 a0_1) ∧ w'.cell? ⟨gb1825, 2, none⟩ = some (.int .i64 a0_2) ∧ w'.cell? ⟨gb1825, 3, none⟩ = some (.int .i64 a0_3) ∧ w'.cell? ⟨gb1825, 4, none⟩ = some (.slice A0_4 l0_4.length c0_4)) (ds := []) #[false, false, false, false, false, false, false, false, false, false, false, false, false, false, false, false] (by kernel_rfl) rfl rfl ⟨zB BK1825.out 0, zB BK1825.out 1, zB BK1825.out 2, zB BK1825.out 3, zB BK1825.out 4⟩ (fun hHeld => ?_); refine yE yH.tab1 yH.bits1 (fun HT_ HW_ => ?_)
   generalize w6.drew = w14 at BK1825 HB hHeld ⊢
   refine zT (i := 1) (N := some 18) (v := ?_) (a' := ?_) #[false, true, false, false, false, false, false, false, false, false, false, false, false, false, false, false] rfl rfl (zN HT_.out (by kernel_rfl)) (fun _ _ _ h => h) (Or.inl ⟨by rfl, ?_⟩) ?_ ?_
   rotate_left
   ·
    intro w'
    go_simp
    with_reducible rfl
   rotate_left
   ·
    simp only [Act.put, List.setIfInBounds_toArray, List.set_cons_zero, List.set_cons_succ, zQ, zR]
    rfl
   refine zT (i := 2) (N := some 19) (v := ?_) (a' := ?_) #[false, true, true, false, false, false, false, false, false, false, false, false, false, false, false, false] rfl rfl (zN HT_.out (by kernel_rfl)) (fun _ _ _ h => h) (Or.inl ⟨by rfl, ?_⟩) ?_ ?_
   rotate_left
   ·
    intro w'
    go_simp
    with_reducible rfl
   rotate_left
   ·
    simp only [Act.put, List.setIfInBounds_toArray, List.set_cons_zero, List.set_cons_succ, zQ, zR]
    rfl
   refine yC (i := 0) (N := some 17) (v := ?_) (a' := ?_) #[true, true, true, false, false, false, false, false, false, false, false, false, false, false, false, false] rfl rfl (zY HT_.out HW_.out (by kernel_rfl)) (fun _ _ _ h => h) (Or.inl ⟨by rfl, ?_⟩) hHeld ?_ ?_
   rotate_left
   ·
    rintro w' ⟨s0, s1, s2, s3, s4⟩
    go_simp
    with_reducible rfl
   rotate_left
   ·
    simp only [Act.put, List.setIfInBounds_toArray, List.set_cons_zero, List.set_cons_succ, zQ, zR]
    rfl
   refine one_ (i := 3) (N := some 20) #[true, true, true, true, false, false, false, false, false, false, false, false, false, false, false, false] rfl rfl (yB HT_.out (by kernel_rfl)) (by decide) (fun K hK => ?_)
   refine yD Try.func109 (by kernel_rfl) rfl #[.int .i64 a2] (by rfl) rfl rfl (by (try simp only [List.map_toArray, List.map_cons, List.map_nil]); first | done | rfl) ?_
   with_reducible refine (wA.calls a2 false _ A7.out).mono ?_
   rintro e w' ⟨rfl, ⟨nd, rfl⟩⟩
   refine ⟨_, rfl, ?_⟩
   refine hK.out _ _ ⟨zB BK1825.out 0, zB BK1825.out 1, zB BK1825.out 2, zB BK1825.out 3, zB BK1825.out 4⟩ (fun hHeld => ?_)
   clear hK K
   refine yA (a' := ?_) ?_ ?_
   rotate_left
   ·
    show Act.put _ (some 20) _ = _
    simp only [Act.put, List.setIfInBounds_toArray, List.set_cons_zero, List.set_cons_succ, zQ, zR]
    rfl
   refine zT (i := 4) (N := some 21) (v := ?_) (a' := ?_) #[true, true, true, true, true, false, false, false, false, false, false, false, false, false, false, false] rfl rfl (zN HT_.out (by kernel_rfl)) (fun _ _ _ h => h) (Or.inl ⟨by rfl, ?_⟩) ?_ ?_
   rotate_left
   ·
    intro w'
    go_simp
    with_reducible rfl
   rotate_left
   ·
    simp only [Act.put, List.setIfInBounds_toArray, List.set_cons_zero, List.set_cons_succ, zQ, zR]
    rfl
   refine zT (i := 5) (N := some 22) (v := undef) (a' := ?_) #[true, true, true, true, true, true, false, false, false, false, false, false, false, false, false, false] rfl rfl (zN HT_.out (by kernel_rfl)) (fun _ _ _ h => h) (Or.inr ⟨by rfl, rfl⟩) ?_ ?_
   rotate_left
   ·
    simp only [Act.put, List.setIfInBounds_toArray, List.set_cons_zero, List.set_cons_succ, zQ, zR]
    rfl
   refine zT (i := 6) (N := some 23) (v := undef) (a' := ?_) #[true, true, true, true, true, true, true, false, false, false, false, false, false, false, false, false] rfl rfl (zN HT_.out (by kernel_rfl)) (fun _ _ _ h => h) (Or.inr ⟨by rfl, rfl⟩) ?_ ?_
   rotate_left
   ·
    simp only [Act.put, List.setIfInBounds_toArray, List.set_cons_zero, List.set_cons_succ, zQ, zR]
    rfl
   refine zT (i := 7) (N := some 24) (v := ?_) (a' := ?_) #[true, true, true, true, true, true, true, true, false, false, false, false, false, false, false, false] rfl rfl (zN HT_.out (by kernel_rfl)) (fun _ _ _ h => h) (Or.inl ⟨by rfl, ?_⟩) ?_ ?_
   rotate_left
   ·
    intro w'
    go_simp
    with_reducible rfl
   rotate_left
   ·
    simp only [Act.put, List.setIfInBounds_toArray, List.set_cons_zero, List.set_cons_succ, zQ, zR]
    rfl
   refine one_ (i := 8) (N := some 25) #[true, true, true, true, true, true, true, true, true, false, false, false, false, false, false, false] rfl rfl (yB HT_.out (by kernel_rfl)) (by decide) (fun K hK => ?_)
   refine yD Try.func112 (by kernel_rfl) rfl #[.agg #[.int .i64 a0_0, .int .i64 a0_1, .int .i64 a0_2, .int .i64 a0_3, .slice A0_4 l0_4.length c0_4], .int .i64 a1, .bool false] (by rfl) rfl rfl (by (try simp only [List.map_toArray, List.map_cons, List.map_nil]); first | done | rfl) ?_
   with_reducible refine (yW.calls k a0_0 a0_1 a0_2 a0_3 _ _ l0_4 a1 false t1831 t1832 t1833 _ ?side1 ?side2 A13.out).mono ?_
   (case side1 => repeat (first | exact (Kd.C_below HR0_4.out (by repeat (first | (with_reducible first | exact HB.out | apply zG | apply zA | apply zF | refine zH ?_ GE1825.out) | exact HB.out))) | (with_reducible refine Kd.C_alloc ?_ _) | (with_reducible refine Kd.C_drewN ?_ _) | (with_reducible refine Kd.C_drew ?_)))
   (case side2 => exact HC0_4.out)
   rintro e w15 ⟨rfl, hb⟩
   refine ⟨_, rfl, ?_⟩
   have n0_ := zC.mk (zK (g := gb1825) (o := .cells #[.int .i64 a0_0, .int .i64 a0_1, .int .i64 a0_2, .int .i64 a0_3, .slice A0_4 l0_4.length c0_4] 30 (0, 0)) (by (with_reducible repeat (first | refine zE ?_ _ | refine zI ?_ | refine zD ?_ _)); exact BK1825.out) hb)
   have n1_ := zC.mk (zL (by repeat (first | (with_reducible first | exact HB.out | apply zG | apply zA | apply zF | refine zH ?_ GE1825.out) | exact HB.out)) hb)
   clear BK1825
   clear HB
   have BK1825 := n0_
   have HB := n1_
   clear n0_ n1_
   (try clear hb)
   refine hK.out _ _ ⟨zB BK1825.out 0, zB BK1825.out 1, zB BK1825.out 2, zB BK1825.out 3, zB BK1825.out 4⟩ (fun hHeld => ?_)
   clear hK K
   refine yA (a' := ?_) ?_ ?_
   rotate_left
   ·
    show Act.put _ (some 25) _ = _
    simp only [Act.put, List.setIfInBounds_toArray, List.set_cons_zero, List.set_cons_succ, zQ, zR]
    rfl
   refine zT (i := 9) (N := some 16) (v := ?_) (a' := ?_) #[true, true, true, true, true, true, true, true, true, true, false, false, false, false, false, false] rfl rfl (zN HT_.out (by kernel_rfl)) (fun _ _ _ h => h) (Or.inl ⟨by rfl, ?_⟩) ?_ ?_
   rotate_left
   ·
    intro w'
    go_simp
    with_reducible rfl
   rotate_left
   ·
    simp only [Act.put, List.setIfInBounds_toArray, List.set_cons_zero, List.set_cons_succ, zQ, zR]
    rfl
   refine zT (i := 10) (N := some 26) (v := ?_) (a' := ?_) #[true, true, true, true, true, true, true, true, true, true, true, false, false, false, false, false] rfl rfl (zN HT_.out (by kernel_rfl)) (fun _ _ _ h => h) (Or.inl ⟨by rfl, ?_⟩) ?_ ?_
   rotate_left
   ·
    intro w'
    go_simp
    with_reducible rfl
   rotate_left
   ·
    simp only [Act.put, List.setIfInBounds_toArray, List.set_cons_zero, List.set_cons_succ, zQ, zR]
    rfl
   refine zT (i := 11) (N := some 27) (v := ?_) (a' := ?_) #[true, true, true, true, true, true, true, true, true, true, true, true, false, false, false, false] rfl rfl (zN HT_.out (by kernel_rfl)) (fun _ _ _ h => h) (Or.inl ⟨by rfl, ?_⟩) ?_ ?_
   rotate_left
   ·
    intro w'
    go_simp
    with_reducible rfl
   rotate_left
   ·
    simp only [Act.put, List.setIfInBounds_toArray, List.set_cons_zero, List.set_cons_succ, zQ, zR]
    rfl
   refine zT (i := 12) (N := some 28) (v := ?_) (a' := ?_) #[true, true, true, true, true, true, true, true, true, true, true, true, true, false, false, false] rfl rfl (zN HT_.out (by kernel_rfl)) (fun _ _ _ h => h) (Or.inl ⟨by rfl, ?_⟩) ?_ ?_
   rotate_left
   ·
    intro w'
    go_simp
    with_reducible rfl
   rotate_left
   ·
    simp only [Act.put, List.setIfInBounds_toArray, List.set_cons_zero, List.set_cons_succ, zQ, zR]
    rfl
   refine zT (i := 13) (N := some 10) (v := ?_) (a' := ?_) #[true, true, true, true, true, true, true, true, true, true, true, true, true, true, false, false] rfl rfl (zN HT_.out (by kernel_rfl)) (fun _ _ _ h => h) (Or.inl ⟨by rfl, ?_⟩) ?_ ?_
   rotate_left
   ·
    intro w'
    go_simp
    with_reducible rfl
   rotate_left
   ·
    simp only [Act.put, List.setIfInBounds_toArray, List.set_cons_zero, List.set_cons_succ, zQ, zR]
    rfl
   refine zT (i := 14) (N := some 11) (v := ?_) (a' := ?_) #[true, true, true, true, true, true, true, true, true, true, true, true, true, true, true, false] rfl rfl (zN HT_.out (by kernel_rfl)) (fun _ _ _ h => h) (Or.inl ⟨by rfl, ?_⟩) ?_ ?_
   rotate_left
   ·
    intro w'
    go_simp
    with_reducible rfl
   rotate_left
   ·
    simp only [Act.put, List.setIfInBounds_toArray, List.set_cons_zero, List.set_cons_succ, zQ, zR]
    rfl
   refine zT (i := 15) (N := some 12) (v := ?_) (a' := ?_) #[true, true, true, true, true, true, true, true, true, true, true, true, true, true, true, true] rfl rfl (zN HT_.out (by kernel_rfl)) (fun _ _ _ h => h) (Or.inl ⟨by rfl, ?_⟩) ?_ ?_
   rotate_left
   ·
    intro w'
    go_simp
    with_reducible rfl
   rotate_left
   ·
    simp only [Act.put, List.setIfInBounds_toArray, List.set_cons_zero, List.set_cons_succ, zQ, zR]
    rfl
   refine done_ (done_of HT_.out (by kernel_rfl)) ?_
   try go_wp2
   go_meet
   case rel => exact ⟨_, (t1831), (t1832), (t1833), (by first | rfl | (simp; done) | (simp [*]; done)), (by first | rfl | (simp; done) | (simp [*]; done)), (by first | rfl | (simp; done) | (simp [*]; done)), H', ⟨by first | omega | exact Nat.le_refl _⟩, ⟨by (with_reducible repeat (first | refine zE ?_ _ | refine zI ?_ | refine zD ?_ _)); exact BK1825.out⟩, ⟨by repeat (first | (with_reducible first | exact HB.out | apply zG | apply zA | apply zF | refine zH ?_ GE1825.out) | exact HB.out)⟩⟩
 case rest =>
  clear HC5
  try clear c1
  try clear p2
  try clear c5
  try clear c8
  try clear c10
  try clear c11
  obtain ⟨kq, x10_4, x11_4, x12_4, rfl, rfl, rfl, HA, HJ4, BK1825, HB⟩ := hcut
  cases kq with
  | zero => exact absurd HA.out (by simp [yH.j0])
  | succ kj4 =>
   have H := HA.out
   clear HA
   simp only [yH.j0] at H
   by_cases c16 : x12_4 = 0
   ·
    rw [if_pos c16] at H
    have c16b0 : (x12_4 == 0) = true := beq_iff_eq.mpr c16
    have c16b1 : (x12_4 != 0) = false := bne_eq_false_iff_eq.mpr c16
    clear c16
    replace H := Option.bind_eq_some_iff.mp H
    obtain ⟨t1834, A170, H⟩ := H
    replace H : (yH.l0 kj4 a2 a3 0 t1834 (t1834.length : Int) 0) = some (r1, r2) := H
    have A17 := zC.mk A170
    clear A170
    have H' := zC.mk H
    clear H
    go_wp2_with (first | ((with_reducible refine zS (f := 115) rfl ?_); refine zZ (some 35) rfl rfl Try.func115 (by kernel_rfl) rfl #[.int .i64 x10_4, .int .i64 x11_4, .int .i64 a2, .int .i64 100] rfl (by (try simp only [List.map_toArray, List.map_cons, List.map_nil]); first | done | rfl) ?_; (with_reducible refine (yR.calls kj4 x10_4 x11_4 a2 100 t1834 _ A17.out).mono ?_); rintro e w18 ⟨v1835, rfl, ho0, hb⟩; refine ⟨_, rfl, ?_⟩; have n0_ := zC.mk (Kd.R_lower ho0 (zM (by repeat (first | (with_reducible first | exact HB.out | apply zG | apply zA | apply zF | refine zH ?_ GE1825.out) | exact HB.out)))); have n1_ := zC.mk (zK (g := gb1825) (o := .cells #[.int .i64 a0_0, .int .i64 a0_1, .int .i64 a0_2, .int .i64 a0_3, .slice A0_4 l0_4.length c0_4] 30 (0, 0)) (by (with_reducible repeat (first | refine zE ?_ _ | refine zI ?_ | refine zD ?_ _)); exact BK1825.out) hb); have n2_ := zC.mk (zL (by repeat (first | (with_reducible first | exact HB.out | apply zG | apply zA | apply zF | refine zH ?_ GE1825.out) | exact HB.out)) hb); clear BK1825; clear HB; have HO1836 := n0_; have BK1825 := n1_; have HB := n2_; clear n0_ n1_ n2_; (try clear hb); (try clear ho0); obtain ⟨Ao19, co19, eo19⟩ := Kd.R_slice HO1836.out; subst eo19))
    go_loopg [13, 37] kj4 (fun kq v13 v37 w' => ∃ (x13_2 : Int) (x37_2 : Int), v13 = .int .i64 x13_2 ∧ v37 = .int .i64 x37_2 ∧ zC (yH.l0 kq a2 a3 x13_2 t1834 (t1834.length : Int) x37_2 = some (r1, r2)) ∧ zC (kq ≤ kj4) ∧ zC (Kd.R (Kd.int .i64) 2 w' w.heap.size (fun _ => True) (.slice Ao19 t1834.length co19) t1834) ∧ zC (w'.heap[gb1825]? = some (.cells #[.int .i64 a0_0, .int .i64 a0_1, .int .i64 a0_2, .int .i64 a0_3, (.slice A0_4 l0_4.length c0_4)] 30 (0, 0))) ∧ zC (Below w.heap.size w w'))
    case atStart => exact ⟨(0), (0), (by first | rfl | (simp; done) | (simp [*]; done)), (by first | rfl | (simp; done) | (simp [*]; done)), H', ⟨Nat.le_refl _⟩, ⟨by (with_reducible repeat (first | apply Kd.R_alloc | apply Kd.R_drewN | apply Kd.R_drew)); exact HO1836.out⟩, ⟨by (with_reducible repeat (first | refine zE ?_ _ | refine zI ?_ | refine zD ?_ _)); exact BK1825.out⟩, ⟨by repeat (first | (with_reducible first | exact HB.out | apply zG | apply zA | apply zF | refine zH ?_ GE1825.out) | exact HB.out)⟩⟩
    case round =>
     clear H'
     try clear c1
     try clear p2
     try clear c5
     try clear c8
     try clear c10
     try clear c11
     try clear c16
     try clear c16b0
     try clear c16b1
     try clear p2
     obtain ⟨x13_2, x37_2, rfl, rfl, HA, HK2, HO_35, BK1825, HB⟩ := hrel
     cases gk with
     | zero => exact absurd HA.out (by simp [yH.l0])
     | succ k2 =>
      have H := HA.out
      clear HA
      simp only [yH.l0] at H
      by_cases c20 : x37_2 < (t1834.length : Int)
      ·
       rw [if_pos c20] at H
       have c20b0 : decide (x37_2 < (t1834.length : Int)) = true := decide_eq_true c20
       clear c20
       by_cases c21 : 0 ≤ x37_2
       ·
        rw [if_pos c21] at H
        have c21b0 : decide (0 ≤ x37_2) = true := decide_eq_true c21
        clear c21
        by_cases c22 : x37_2 < (t1834.length : Int)
        ·
         rw [if_pos c22] at H
         have c22b0 : decide (x37_2 < (t1834.length : Int)) = true := decide_eq_true c22
         clear c22
         by_cases c23 : (wrap64 ((rd t1834 x37_2) + a2)) ≤ a3
         ·
          rw [if_pos c23] at H
          have c23b0 : decide ((wrap64 ((rd t1834 x37_2) + a2)) ≤ a3) = true := decide_eq_true c23
          clear c23
          have H' := zC.mk H
          clear H
          have p1837 : 0 ≤ (x37_2 : Int) := of_decide_eq_true (by first | (with_reducible assumption) | assumption)
          have q1837 : x37_2 < (t1834.length : Int) := of_decide_eq_true (by first | (with_reducible assumption) | assumption)
          obtain ⟨ad1837, e1837, hx1837_0⟩ := Kd.at_int (Kd.R_reads' HO_35.out).2.2 x37_2 p1837 q1837
          cases e1837
          replace p1837 := eq_true p1837
          replace q1837 := eq_true q1837
          go_wp2
          go_roundg k2
          case measure => have := HJ4.out; have := HK2.out; omega
          case rel => exact ⟨(wrap64 (x13_2 + 1)), (wrap64 (x37_2 + 1)), (by first | rfl | (simp; done) | (simp [*]; done)), (by first | rfl | (simp; done) | (simp [*]; done)), H', ⟨by have := HJ4.out; have := HK2.out; omega⟩, ⟨by (with_reducible repeat (first | apply Kd.R_alloc | apply Kd.R_drewN | apply Kd.R_drew)); exact HO_35.out⟩, ⟨by (with_reducible repeat (first | refine zE ?_ _ | refine zI ?_ | refine zD ?_ _)); exact BK1825.out⟩, ⟨by repeat (first | (with_reducible first | exact HB.out | apply zG | apply zA | apply zF | refine zH ?_ GE1825.out) | exact HB.out)⟩⟩
         ·
          rw [if_neg c23] at H
          have c23b0 : decide ((wrap64 ((rd t1834 x37_2) + a2)) ≤ a3) = false := decide_eq_false c23
          clear c23
          have H' := zC.mk H
          clear H
          have p1837 : 0 ≤ (x37_2 : Int) := of_decide_eq_true (by first | (with_reducible assumption) | assumption)
          have q1837 : x37_2 < (t1834.length : Int) := of_decide_eq_true (by first | (with_reducible assumption) | assumption)
          obtain ⟨ad1837, e1837, hx1837_0⟩ := Kd.at_int (Kd.R_reads' HO_35.out).2.2 x37_2 p1837 q1837
          cases e1837
          replace p1837 := eq_true p1837
          replace q1837 := eq_true q1837
          go_wp2
          go_roundg k2
          case measure => have := HJ4.out; have := HK2.out; omega
          case rel => exact ⟨(x13_2), (wrap64 (x37_2 + 1)), (by first | rfl | (simp; done) | (simp [*]; done)), (by first | rfl | (simp; done) | (simp [*]; done)), H', ⟨by have := HJ4.out; have := HK2.out; omega⟩, ⟨by (with_reducible repeat (first | apply Kd.R_alloc | apply Kd.R_drewN | apply Kd.R_drew)); exact HO_35.out⟩, ⟨by (with_reducible repeat (first | refine zE ?_ _ | refine zI ?_ | refine zD ?_ _)); exact BK1825.out⟩, ⟨by repeat (first | (with_reducible first | exact HB.out | apply zG | apply zA | apply zF | refine zH ?_ GE1825.out) | exact HB.out)⟩⟩
        ·
         rw [if_neg c22] at H
         exact absurd H (by simp)
       ·
        rw [if_neg c21] at H
        exact absurd H (by simp)
      ·
       rw [if_neg c20] at H
       have c20b0 : decide (x37_2 < (t1834.length : Int)) = false := decide_eq_false c20
       clear c20
       simp only [Option.some.injEq, Prod.mk.injEq] at H
       obtain ⟨rfl, rfl⟩ := H
       go_wp2
       go_ret2
       exact ⟨by first | rfl | (simp [*, errW_none, errW_some] <;> rfl), by repeat (first | (with_reducible first | exact HB.out | apply zG | apply zA | apply zF | refine zH ?_ GE1825.out) | exact HB.out)⟩
   ·
    rw [if_neg c16] at H
    have c16b0 : (x12_4 == 0) = false := beq_eq_false_iff_ne.mpr c16
    have c16b1 : (x12_4 != 0) = true := bne_iff_ne.mpr c16
    simp only [Option.some.injEq, Prod.mk.injEq] at H
    obtain ⟨rfl, rfl⟩ := H
    go_wp2
    go_ret2
    exact ⟨by first | rfl | (simp [*, errW_none, errW_some] <;> rfl), by repeat (first | (with_reducible first | exact HB.out | apply zG | apply zA | apply zF | refine zH ?_ GE1825.out) | exact HB.out)⟩
theorem xE.calls (k : Nat) (a0_0 : Int) (a0_1 : Int) (a0_2 : Int) (a0_3 : Int) (A0_4 : Option Addr) (c0_4 : Nat) (l0_4 : List Int) (a1 : Int) (a2 : Int) (a3 : Int) (r : Bool) (w : World) (hr0_4 : Kd.C (Kd.int .i64) w A0_4 l0_4.length l0_4) (hc0_4 : l0_4.length ≤ c0_4) (h : xE.f k a0_0 a0_1 a0_2 a0_3 l0_4 a1 a2 a3 = some r) :
  Calls Try.prog 13 #[.agg #[.int .i64 a0_0, .int .i64 a0_1, .int .i64 a0_2, .int .i64 a0_3, .slice A0_4 l0_4.length c0_4], .int .i64 a1, .int .i64 a2, .int .i64 a3] w fun e w' => e = .returned (.bool r) ∧ Below w.heap.size w w' := by
 have hu26 := Try.underlying26
 have hu30 := Try.underlying30
 have HR0_4 := zC.mk hr0_4
 have HC0_4 := zC.mk hc0_4
 clear hr0_4 hc0_4
 have HB := zC.mk (Below.refl w.heap.size w)
 have H : ((wJ.f a0_0 a0_1 a0_2 a0_3 l0_4 1048576).bind fun t1839 => (if t1839 < 0 then (some true) else ((xF.f k a0_0 a0_1 a0_2 a0_3 l0_4).bind fun bt1840 => ((yN.f k bt1840.1 bt1840.2.1 bt1840.2.2.1 bt1840.2.2.2.1 bt1840.2.2.2.2 a1 a2 a3).bind fun bt1847 => ((xF.f k a0_0 a0_1 a0_2 a0_3 l0_4).bind fun bt1849 => ((yH.f k bt1849.1 bt1849.2.1 bt1849.2.2.1 bt1849.2.2.2.1 bt1849.2.2.2.2 a1 a2 a3).bind fun bt1857 => (if bt1857.1 = bt1847.1 then (if bt1857.2 = bt1847.2 then ((xF.f k a0_0 a0_1 a0_2 a0_3 l0_4).bind fun bt1859 => ((xJ.f k bt1849.1 bt1849.2.1 bt1849.2.2.1 bt1849.2.2.2.1 bt1849.2.2.2.2 bt1859.1 bt1859.2.1 bt1859.2.2.1 bt1859.2.2.2.1 bt1859.2.2.2.2).bind fun t1866 => (if t1866 = true then (some true) else (none)))) else (none)) else (none)))))))) = some r := h
 clear h
 replace H := Option.bind_eq_some_iff.mp H
 obtain ⟨t1839, A50, H⟩ := H
 replace H : (if t1839 < 0 then (some true) else ((xF.f k a0_0 a0_1 a0_2 a0_3 l0_4).bind fun bt1840 => ((yN.f k bt1840.1 bt1840.2.1 bt1840.2.2.1 bt1840.2.2.2.1 bt1840.2.2.2.2 a1 a2 a3).bind fun bt1847 => ((xF.f k a0_0 a0_1 a0_2 a0_3 l0_4).bind fun bt1849 => ((yH.f k bt1849.1 bt1849.2.1 bt1849.2.2.1 bt1849.2.2.2.1 bt1849.2.2.2.2 a1 a2 a3).bind fun bt1857 => (if bt1857.1 = bt1847.1 then (if bt1857.2 = bt1847.2 then ((xF.f k a0_0 a0_1 a0_2 a0_3 l0_4).bind fun bt1859 => ((xJ.f k bt1849.1 bt1849.2.1 bt1849.2.2.1 bt1849.2.2.2.1 bt1849.2.2.2.2 bt1859.1 bt1859.2.1 bt1859.2.2.1 bt1859.2.2.2.1 bt1859.2.2.2.2).bind fun t1866 => (if t1866 = true then (some true) else (none)))) else (none)) else (none))))))) = some r := H
 have A5 := zC.mk A50
 clear A50
 by_cases c6 : t1839 < 0
 ·
  rw [if_pos c6] at H
  have c6b0 : decide (t1839 < 0) = true := decide_eq_true c6
  clear c6
  obtain rfl := Option.some.inj H
  go_enter Try.func13, Try.ntmps13
  go_wp2_with (first | ((with_reducible refine zP (N := 4) rfl ?_); refine zO ?hg (N := 4) ?hd (cs := #[.int .i64 a0_0, .int .i64 a0_1, .int .i64 a0_2, .int .i64 a0_3, .slice A0_4 l0_4.length c0_4]) (t := 26) ?hr ?_; (case hd => rfl); (case hg => rfl); (case hr => first | (go_simp; done) | (go_simp; rfl)); intro gb1838 hg w7 hbox hb; have n0_ := zC.mk (zL (by repeat (first | (with_reducible first | exact HB.out | apply zG | apply zA | apply zF) | exact HB.out)) hb); have n1_ := zC.mk (hbox); have n2_ := zC.mk ((by rw [hg]; exact (zM (by repeat (first | (with_reducible first | exact HB.out | apply zG | apply zA | apply zF) | exact HB.out))) : w.heap.size ≤ gb1838)); have n3_ := n2_; clear HB; have HB := n0_; have BK1838 := n1_; have GW1838 := n2_; have GE1838 := n3_; clear n0_ n1_ n2_ n3_; clear hb hbox hg; have hcz8_0 : w7.cell? ⟨gb1838, 0, none⟩ = some (.int .i64 a0_0) := zB BK1838.out 0; have hcz8_1 : w7.cell? ⟨gb1838, 1, none⟩ = some (.int .i64 a0_1) := zB BK1838.out 1; have hcz8_2 : w7.cell? ⟨gb1838, 2, none⟩ = some (.int .i64 a0_2) := zB BK1838.out 2; have hcz8_3 : w7.cell? ⟨gb1838, 3, none⟩ = some (.int .i64 a0_3) := zB BK1838.out 3; have hcz8_4 : w7.cell? ⟨gb1838, 4, none⟩ = some (.slice A0_4 l0_4.length c0_4) := zB BK1838.out 4; have hfz8_0 := zJ BK1838.out 0; have hfz8_1 := zJ BK1838.out 1; have hfz8_2 := zJ BK1838.out 2; have hfz8_3 := zJ BK1838.out 3; have hfz8_4 := zJ BK1838.out 4) | ((with_reducible refine zS (f := 14) rfl ?_); refine zZ (some 17) rfl rfl Try.func14 (by kernel_rfl) rfl #[.agg #[.int .i64 a0_0, .int .i64 a0_1, .int .i64 a0_2, .int .i64 a0_3, .slice A0_4 l0_4.length c0_4], .int .i64 1048576] rfl (by (try simp only [List.map_toArray, List.map_cons, List.map_nil]); first | done | rfl) ?_; (with_reducible refine (wJ.calls a0_0 a0_1 a0_2 a0_3 _ _ l0_4 1048576 t1839 _ ?side1 ?side2 A5.out).mono ?_); (case side1 => repeat (first | exact (Kd.C_below HR0_4.out HB.out) | (with_reducible refine Kd.C_alloc ?_ _) | (with_reducible refine Kd.C_drewN ?_ _) | (with_reducible refine Kd.C_drew ?_))); (case side2 => exact HC0_4.out); rintro e w9 ⟨rfl, hb⟩; refine ⟨_, rfl, ?_⟩; have n0_ := zC.mk (zK (g := gb1838) (o := .cells #[.int .i64 a0_0, .int .i64 a0_1, .int .i64 a0_2, .int .i64 a0_3, .slice A0_4 l0_4.length c0_4] 26 (0, 0)) (by (with_reducible repeat (first | refine zE ?_ _ | refine zI ?_ | refine zD ?_ _)); exact BK1838.out) hb); have n1_ := zC.mk (zL (by repeat (first | (with_reducible first | exact HB.out | apply zG | apply zA | apply zF | refine zH ?_ GE1838.out) | exact HB.out)) hb); clear BK1838; clear HB; have BK1838 := n0_; have HB := n1_; clear n0_ n1_; (try clear hb)))
  go_ret
  exact ⟨by first | rfl | (simp [*, errW_none, errW_some] <;> rfl), by repeat (first | (with_reducible first | exact HB.out | apply zG | apply zA | apply zF | refine zH ?_ GE1838.out) | exact HB.out)⟩
 ·
  rw [if_neg c6] at H
  have c6b0 : decide (t1839 < 0) = false := decide_eq_false c6
  clear c6
  replace H := Option.bind_eq_some_iff.mp H
  obtain ⟨⟨t1840, t1841, t1842, t1843, t1844⟩, A100, H⟩ := H
  replace H : ((yN.f k t1840 t1841 t1842 t1843 t1844 a1 a2 a3).bind fun bt1847 => ((xF.f k a0_0 a0_1 a0_2 a0_3 l0_4).bind fun bt1849 => ((yH.f k bt1849.1 bt1849.2.1 bt1849.2.2.1 bt1849.2.2.2.1 bt1849.2.2.2.2 a1 a2 a3).bind fun bt1857 => (if bt1857.1 = bt1847.1 then (if bt1857.2 = bt1847.2 then ((xF.f k a0_0 a0_1 a0_2 a0_3 l0_4).bind fun bt1859 => ((xJ.f k bt1849.1 bt1849.2.1 bt1849.2.2.1 bt1849.2.2.2.1 bt1849.2.2.2.2 bt1859.1 bt1859.2.1 bt1859.2.2.1 bt1859.2.2.2.1 bt1859.2.2.2.2).bind fun t1866 => (if t1866 = true then (some true) else (none)))) else (none)) else (none))))) = some r := H
  have A10 := zC.mk A100
  clear A100
  replace H := Option.bind_eq_some_iff.mp H
  obtain ⟨⟨t1847, t1848⟩, A110, H⟩ := H
  replace H : ((xF.f k a0_0 a0_1 a0_2 a0_3 l0_4).bind fun bt1849 => ((yH.f k bt1849.1 bt1849.2.1 bt1849.2.2.1 bt1849.2.2.2.1 bt1849.2.2.2.2 a1 a2 a3).bind fun bt1857 => (if bt1857.1 = t1847 then (if bt1857.2 = t1848 then ((xF.f k a0_0 a0_1 a0_2 a0_3 l0_4).bind fun bt1859 => ((xJ.f k bt1849.1 bt1849.2.1 bt1849.2.2.1 bt1849.2.2.2.1 bt1849.2.2.2.2 bt1859.1 bt1859.2.1 bt1859.2.2.1 bt1859.2.2.2.1 bt1859.2.2.2.2).bind fun t1866 => (if t1866 = true then (some true) else (none)))) else (none)) else (none)))) = some r := H
  have A11 := zC.mk A110
  clear A110
  replace H := Option.bind_eq_some_iff.mp H
  obtain ⟨⟨t1849, t1850, t1851, t1852, t1853⟩, A120, H⟩ := H
  replace H : ((yH.f k t1849 t1850 t1851 t1852 t1853 a1 a2 a3).bind fun bt1857 => (if bt1857.1 = t1847 then (if bt1857.2 = t1848 then ((xF.f k a0_0 a0_1 a0_2 a0_3 l0_4).bind fun bt1859 => ((xJ.f k t1849 t1850 t1851 t1852 t1853 bt1859.1 bt1859.2.1 bt1859.2.2.1 bt1859.2.2.2.1 bt1859.2.2.2.2).bind fun t1866 => (if t1866 = true then (some true) else (none)))) else (none)) else (none))) = some r := H
  have A12 := zC.mk A120
  clear A120
  replace H := Option.bind_eq_some_iff.mp H
  obtain ⟨⟨t1857, t1858⟩, A130, H⟩ := H
  replace H : (if t1857 = t1847 then (if t1858 = t1848 then ((xF.f k a0_0 a0_1 a0_2 a0_3 l0_4).bind fun bt1859 => ((xJ.f k t1849 t1850 t1851 t1852 t1853 bt1859.1 bt1859.2.1 bt1859.2.2.1 bt1859.2.2.2.1 bt1859.2.2.2.2).bind fun t1866 => (if t1866 = true then (some true) else (none)))) else (none)) else (none)) = some r := H
  have A13 := zC.mk A130
  clear A130
  by_cases c14 : t1857 = t1847
  ·
   rw [if_pos c14] at H
   have c14b0 : (t1857 == t1847) = true := beq_iff_eq.mpr c14
   have c14b1 : (t1857 != t1847) = false := bne_eq_false_iff_eq.mpr c14
   clear c14
   by_cases c15 : t1858 = t1848
   ·
    rw [if_pos c15] at H
    have c15b0 : (t1858 == t1848) = true := beq_iff_eq.mpr c15
    have c15b1 : (t1858 != t1848) = false := bne_eq_false_iff_eq.mpr c15
    clear c15
    replace H := Option.bind_eq_some_iff.mp H
    obtain ⟨⟨t1859, t1860, t1861, t1862, t1863⟩, A160, H⟩ := H
    replace H : ((xJ.f k t1849 t1850 t1851 t1852 t1853 t1859 t1860 t1861 t1862 t1863).bind fun t1866 => (if t1866 = true then (some true) else (none))) = some r := H
    have A16 := zC.mk A160
    clear A160
    replace H := Option.bind_eq_some_iff.mp H
    obtain ⟨t1866, A170, H⟩ := H
    replace H : (if t1866 = true then (some true) else (none)) = some r := H
    have A17 := zC.mk A170
    clear A170
    by_cases c18 : t1866 = true
    ·
     subst c18
     have H1 : (some true) = some r := by rw [if_pos rfl] at H; exact H
     clear H
     have H := H1
     clear H1
     obtain rfl := Option.some.inj H
     go_enter Try.func13, Try.ntmps13
     try go_wp2_with (first | ((with_reducible refine zP (N := 4) rfl ?_); refine zO ?hg (N := 4) ?hd (cs := #[.int .i64 a0_0, .int .i64 a0_1, .int .i64 a0_2, .int .i64 a0_3, .slice A0_4 l0_4.length c0_4]) (t := 26) ?hr ?_; (case hd => rfl); (case hg => rfl); (case hr => first | (go_simp; done) | (go_simp; rfl)); intro gb1838 hg w19 hbox hb; have n0_ := zC.mk (zL (by repeat (first | (with_reducible first | exact HB.out | apply zG | apply zA | apply zF) | exact HB.out)) hb); have n1_ := zC.mk (hbox); have n2_ := zC.mk ((by rw [hg]; exact (zM (by repeat (first | (with_reducible first | exact HB.out | apply zG | apply zA | apply zF) | exact HB.out))) : w.heap.size ≤ gb1838)); have n3_ := n2_; clear HB; have HB := n0_; have BK1838 := n1_; have GW1838 := n2_; have GE1838 := n3_; clear n0_ n1_ n2_ n3_; clear hb hbox hg; have hcz20_0 : w19.cell? ⟨gb1838, 0, none⟩ = some (.int .i64 a0_0) := zB BK1838.out 0; have hcz20_1 : w19.cell? ⟨gb1838, 1, none⟩ = some (.int .i64 a0_1) := zB BK1838.out 1; have hcz20_2 : w19.cell? ⟨gb1838, 2, none⟩ = some (.int .i64 a0_2) := zB BK1838.out 2; have hcz20_3 : w19.cell? ⟨gb1838, 3, none⟩ = some (.int .i64 a0_3) := zB BK1838.out 3; have hcz20_4 : w19.cell? ⟨gb1838, 4, none⟩ = some (.slice A0_4 l0_4.length c0_4) := zB BK1838.out 4; have hfz20_0 := zJ BK1838.out 0; have hfz20_1 := zJ BK1838.out 1; have hfz20_2 := zJ BK1838.out 2; have hfz20_3 := zJ BK1838.out 3; have hfz20_4 := zJ BK1838.out 4) | ((with_reducible refine zS (f := 14) rfl ?_); refine zZ (some 17) rfl rfl Try.func14 (by kernel_rfl) rfl #[.agg #[.int .i64 a0_0, .int .i64 a0_1, .int .i64 a0_2, .int .i64 a0_3, .slice A0_4 l0_4.length c0_4], .int .i64 1048576] rfl (by (try simp only [List.map_toArray, List.map_cons, List.map_nil]); first | done | rfl) ?_; (with_reducible refine (wJ.calls a0_0 a0_1 a0_2 a0_3 _ _ l0_4 1048576 t1839 _ ?side1 ?side2 A5.out).mono ?_); (case side1 => repeat (first | exact (Kd.C_below HR0_4.out HB.out) | (with_reducible refine Kd.C_alloc ?_ _) | (with_reducible refine Kd.C_drewN ?_ _) | (with_reducible refine Kd.C_drew ?_))); (case side2 => exact HC0_4.out); rintro e w21 ⟨rfl, hb⟩; refine ⟨_, rfl, ?_⟩; have n0_ := zC.mk (zK (g := gb1838) (o := .cells #[.int .i64 a0_0, .int .i64 a0_1, .int .i64 a0_2, .int .i64 a0_3, .slice A0_4 l0_4.length c0_4] 26 (0, 0)) (by (with_reducible repeat (first | refine zE ?_ _ | refine zI ?_ | refine zD ?_ _)); exact BK1838.out) hb); have n1_ := zC.mk (zL (by repeat (first | (with_reducible first | exact HB.out | apply zG | apply zA | apply zF | refine zH ?_ GE1838.out) | exact HB.out)) hb); clear BK1838; clear HB; have BK1838 := n0_; have HB := n1_; clear n0_ n1_; (try clear hb); have hcz22_0 : w21.cell? ⟨gb1838, 0, none⟩ = some (.int .i64 a0_0) := zB BK1838.out 0; have hcz22_1 : w21.cell? ⟨gb1838, 1, none⟩ = some (.int .i64 a0_1) := zB BK1838.out 1; have hcz22_2 : w21.cell? ⟨gb1838, 2, none⟩ = some (.int .i64 a0_2) := zB BK1838.out 2; have hcz22_3 : w21.cell? ⟨gb1838, 3, none⟩ = some (.int .i64 a0_3) := zB BK1838.out 3; have hcz22_4 : w21.cell? ⟨gb1838, 4, none⟩ = some (.slice A0_4 l0_4.length c0_4) := zB BK1838.out 4; have hfz22_0 := zJ BK1838.out 0; have hfz22_1 := zJ BK1838.out 1; have hfz22_2 := zJ BK1838.out 2; have hfz22_3 := zJ BK1838.out 3; have hfz22_4 := zJ BK1838.out 4) | ((with_reducible refine zS (f := 16) rfl ?_); refine zZ (some 22) rfl rfl Try.func16 (by kernel_rfl) rfl #[.agg #[.int .i64 a0_0, .int .i64 a0_1, .int .i64 a0_2, .int .i64 a0_3, .slice A0_4 l0_4.length c0_4]] rfl (by (try simp only [List.map_toArray, List.map_cons, List.map_nil]); first | done | rfl) ?_; (with_reducible refine (xF.calls k a0_0 a0_1 a0_2 a0_3 _ _ l0_4 t1840 t1841 t1842 t1843 t1844 _ ?side1 ?side2 A10.out).mono ?_); (case side1 => repeat (first | exact (Kd.C_below HR0_4.out HB.out) | (with_reducible refine Kd.C_alloc ?_ _) | (with_reducible refine Kd.C_drewN ?_ _) | (with_reducible refine Kd.C_drew ?_))); (case side2 => exact HC0_4.out); rintro e w23 ⟨v1845, rfl, ho0, hb⟩; refine ⟨_, rfl, ?_⟩; have n0_ := zC.mk (Kd.R_lower ho0 (zM (by repeat (first | (with_reducible first | exact HB.out | apply zG | apply zA | apply zF | refine zH ?_ GE1838.out) | exact HB.out)))); have n1_ := zC.mk (zK (g := gb1838) (o := .cells #[.int .i64 a0_0, .int .i64 a0_1, .int .i64 a0_2, .int .i64 a0_3, .slice A0_4 l0_4.length c0_4] 26 (0, 0)) (by (with_reducible repeat (first | refine zE ?_ _ | refine zI ?_ | refine zD ?_ _)); exact BK1838.out) hb); have n2_ := zC.mk (zL (by repeat (first | (with_reducible first | exact HB.out | apply zG | apply zA | apply zF | refine zH ?_ GE1838.out) | exact HB.out)) hb); clear BK1838; clear HB; have HO1846 := n0_; have BK1838 := n1_; have HB := n2_; clear n0_ n1_ n2_; (try clear hb); (try clear ho0); obtain ⟨Ao24, co24, eo24⟩ := Kd.R_slice HO1846.out; subst eo24) | ((with_reducible refine zS (f := 54) rfl ?_); refine zZ (some 26) rfl rfl Try.func54 (by kernel_rfl) rfl #[.agg #[.int .i64 t1840, .int .i64 t1841, .int .i64 t1842, .int .i64 t1843, .slice Ao24 t1844.length co24], .int .i64 a1, .int .i64 a2, .int .i64 a3] rfl (by (try simp only [List.map_toArray, List.map_cons, List.map_nil]); first | done | rfl) ?_; (with_reducible refine (yN.calls k t1840 t1841 t1842 t1843 _ _ t1844 a1 a2 a3 t1847 t1848 _ ?side1 ?side2 A11.out).mono ?_); (case side1 => repeat (first | exact (Kd.R_reads' HO1846.out).2.2 | (with_reducible refine Kd.C_alloc ?_ _) | (with_reducible refine Kd.C_drewN ?_ _) | (with_reducible refine Kd.C_drew ?_))); (case side2 => exact (Kd.R_reads' HO1846.out).2.1); rintro e w25 ⟨rfl, hb⟩; refine ⟨_, rfl, ?_⟩; have n0_ := zC.mk (Kd.R_below (by (with_reducible repeat (first | apply Kd.R_alloc | apply Kd.R_drewN | apply Kd.R_drew)); exact HO1846.out) hb); have n1_ := zC.mk (zK (g := gb1838) (o := .cells #[.int .i64 a0_0, .int .i64 a0_1, .int .i64 a0_2, .int .i64 a0_3, .slice A0_4 l0_4.length c0_4] 26 (0, 0)) (by (with_reducible repeat (first | refine zE ?_ _ | refine zI ?_ | refine zD ?_ _)); exact BK1838.out) hb); have n2_ := zC.mk (zL (by repeat (first | (with_reducible first | exact HB.out | apply zG | apply zA | apply zF | refine zH ?_ GE1838.out) | exact HB.out)) hb); clear HO1846; clear BK1838; clear HB; have HO1846 := n0_; have BK1838 := n1_; have HB := n2_; clear n0_ n1_ n2_; (try clear hb); have hcz26_0 : w25.cell? ⟨gb1838, 0, none⟩ = some (.int .i64 a0_0) := zB BK1838.out 0; have hcz26_1 : w25.cell? ⟨gb1838, 1, none⟩ = some (.int .i64 a0_1) := zB BK1838.out 1; have hcz26_2 : w25.cell? ⟨gb1838, 2, none⟩ = some (.int .i64 a0_2) := zB BK1838.out 2; have hcz26_3 : w25.cell? ⟨gb1838, 3, none⟩ = some (.int .i64 a0_3) := zB BK1838.out 3; have hcz26_4 : w25.cell? ⟨gb1838, 4, none⟩ = some (.slice A0_4 l0_4.length c0_4) := zB BK1838.out 4; have hfz26_0 := zJ BK1838.out 0; have hfz26_1 := zJ BK1838.out 1; have hfz26_2 := zJ BK1838.out 2; have hfz26_3 := zJ BK1838.out 3; have hfz26_4 := zJ BK1838.out 4) | ((with_reducible refine zS (f := 16) rfl ?_); refine zZ (some 30) rfl rfl Try.func16 (by kernel_rfl) rfl #[.agg #[.int .i64 a0_0, .int .i64 a0_1, .int .i64 a0_2, .int .i64 a0_3, .slice A0_4 l0_4.length c0_4]] rfl (by (try simp only [List.map_toArray, List.map_cons, List.map_nil]); first | done | rfl) ?_; (with_reducible refine (xF.calls k a0_0 a0_1 a0_2 a0_3 _ _ l0_4 t1849 t1850 t1851 t1852 t1853 _ ?side1 ?side2 A12.out).mono ?_); (case side1 => repeat (first | exact (Kd.C_below HR0_4.out HB.out) | (with_reducible refine Kd.C_alloc ?_ _) | (with_reducible refine Kd.C_drewN ?_ _) | (with_reducible refine Kd.C_drew ?_))); (case side2 => exact HC0_4.out); rintro e w27 ⟨v1854, rfl, ho0, hb⟩; refine ⟨_, rfl, ?_⟩; have n0_ := zC.mk (Kd.R_elder' (by (with_reducible repeat (first | apply Kd.R_alloc | apply Kd.R_drewN | apply Kd.R_drew)); exact HO1846.out) (Kd.R_base ho0) hb); have n1_ := zC.mk (Kd.R_lower (Kd.R_new' ho0 (Kd.R_lt (by (with_reducible repeat (first | apply Kd.R_alloc | apply Kd.R_drewN | apply Kd.R_drew)); exact HO1846.out))) (zM (by repeat (first | (with_reducible first | exact HB.out | apply zG | apply zA | apply zF | refine zH ?_ GE1838.out) | exact HB.out)))); have n2_ := zC.mk (zK (g := gb1838) (o := .cells #[.int .i64 a0_0, .int .i64 a0_1, .int .i64 a0_2, .int .i64 a0_3, .slice A0_4 l0_4.length c0_4] 26 (0, 0)) (by (with_reducible repeat (first | refine zE ?_ _ | refine zI ?_ | refine zD ?_ _)); exact BK1838.out) hb); have n3_ := zC.mk (zL (by repeat (first | (with_reducible first | exact HB.out | apply zG | apply zA | apply zF | refine zH ?_ GE1838.out) | exact HB.out)) hb); clear HO1846; clear BK1838; clear HB; have HO1846 := n0_; have HO1855 := n1_; have BK1838 := n2_; have HB := n3_; clear n0_ n1_ n2_ n3_; (try clear hb); (try clear ho0)) | ((with_reducible refine zP (N := 12) rfl ?_); refine zO ?hg (N := 12) ?hd (cs := #[.int .i64 0, .int .i64 0, .int .i64 0, .int .i64 0, .slice none 0 0]) (t := 30) ?hr ?_; (case hd => rfl); (case hg => rfl); (case hr => first | (go_simp; done) | (go_simp; rfl)); intro gb1856 hg w28 hbox hb; have n0_ := zC.mk (Kd.R_below (by (with_reducible repeat (first | apply Kd.R_alloc | apply Kd.R_drewN | apply Kd.R_drew)); exact HO1846.out) hb); have n1_ := zC.mk (Kd.R_below (by (with_reducible repeat (first | apply Kd.R_alloc | apply Kd.R_drewN | apply Kd.R_drew)); exact HO1855.out) hb); have n2_ := zC.mk (zK (g := gb1838) (o := .cells #[.int .i64 a0_0, .int .i64 a0_1, .int .i64 a0_2, .int .i64 a0_3, .slice A0_4 l0_4.length c0_4] 26 (0, 0)) (by (with_reducible repeat (first | refine zE ?_ _ | refine zI ?_ | refine zD ?_ _)); exact BK1838.out) hb); have n3_ := zC.mk (zL (by repeat (first | (with_reducible first | exact HB.out | apply zG | apply zA | apply zF | refine zH ?_ GE1838.out) | exact HB.out)) hb); have n4_ := zC.mk (hbox); have n5_ := zC.mk ((by rw [hg]; exact (zM (by repeat (first | (with_reducible first | exact HB.out | apply zG | apply zA | apply zF | refine zH ?_ GE1838.out) | exact HB.out))) : w.heap.size ≤ gb1856)); have n6_ := n5_; have n7_ := zC.mk ((by rw [hg]; exact Nat.ne_of_lt (zX (by (with_reducible repeat (first | refine zE ?_ _ | refine zI ?_ | refine zD ?_ _)); exact BK1838.out)) : gb1838 ≠ gb1856)); have n8_ := zC.mk n7_.out.symm; clear HO1846; clear HO1855; clear BK1838; clear HB; have HO1846 := n0_; have HO1855 := n1_; have BK1838 := n2_; have HB := n3_; have BK1856 := n4_; have GW1856 := n5_; have GE1856 := n6_; have NB1838_1856 := n7_; have NB1856_1838 := n8_; clear n0_ n1_ n2_ n3_ n4_ n5_ n6_ n7_ n8_; clear hb hbox hg; have hnb29 := NB1856_1838.out; have hnc29 := NB1838_1856.out; have hcz30_0 : w28.cell? ⟨gb1856, 0, none⟩ = some (.int .i64 0) := zB BK1856.out 0; have hcz30_1 : w28.cell? ⟨gb1856, 1, none⟩ = some (.int .i64 0) := zB BK1856.out 1; have hcz30_2 : w28.cell? ⟨gb1856, 2, none⟩ = some (.int .i64 0) := zB BK1856.out 2; have hcz30_3 : w28.cell? ⟨gb1856, 3, none⟩ = some (.int .i64 0) := zB BK1856.out 3; have hcz30_4 : w28.cell? ⟨gb1856, 4, none⟩ = some (.slice none 0 0) := zB BK1856.out 4; have hfz30_0 := zJ BK1856.out 0; have hfz30_1 := zJ BK1856.out 1; have hfz30_2 := zJ BK1856.out 2; have hfz30_3 := zJ BK1856.out 3; have hfz30_4 := zJ BK1856.out 4; obtain ⟨Ao31, co31, eo31⟩ := Kd.R_slice HO1855.out; subst eo31) | ((with_reducible refine zS (f := 55) rfl ?_); refine zZ (some 36) rfl rfl Try.func55 (by kernel_rfl) rfl #[.agg #[.int .i64 t1849, .int .i64 t1850, .int .i64 t1851, .int .i64 t1852, .slice Ao31 t1853.length co31], .int .i64 a1, .int .i64 a2, .int .i64 a3] rfl (by (try simp only [List.map_toArray, List.map_cons, List.map_nil]); first | done | rfl) ?_; (with_reducible refine (yH.calls k t1849 t1850 t1851 t1852 _ _ t1853 a1 a2 a3 t1857 t1858 _ ?side1 ?side2 A13.out).mono ?_); (case side1 => refine (Kd.R_reads' (e := 2) (base := w.heap.size) (ok := fun k_ => (True ∧ some k_ ≠ (.slice Ao24 t1844.length co24 : Value).ownBlock)) (n := t1853.length) (c := co31) ?_).2.2; exact (by (with_reducible repeat (first | apply Kd.R_alloc | apply Kd.R_drewN | apply Kd.R_drew)); exact (Kd.R_mono (Kd.R_far (p := ⟨gb1856, 4, none⟩) (Kd.R_far (p := ⟨gb1856, 3, none⟩) (Kd.R_far (p := ⟨gb1856, 2, none⟩) (Kd.R_far (p := ⟨gb1856, 1, none⟩) (Kd.R_far (p := ⟨gb1856, 0, none⟩) (Kd.R_types HO1855.out BK1856.out (by decide)) (fun _ hk => hk.2) (.int .i64 t1849)) (fun _ hk => hk.2) (.int .i64 t1850)) (fun _ hk => hk.2) (.int .i64 t1851)) (fun _ hk => hk.2) (.int .i64 t1852)) (fun _ hk => hk.2) (.slice Ao31 t1853.length co31)) (fun _ h_ => h_.1)))); (case side2 => exact (Kd.R_reads' HO1855.out).2.1); rintro e w32 ⟨rfl, hb⟩; refine ⟨_, rfl, ?_⟩; have n0_ := zC.mk (Kd.R_below (by (with_reducible repeat (first | apply Kd.R_alloc | apply Kd.R_drewN | apply Kd.R_drew)); exact (Kd.R_mono (Kd.R_far (p := ⟨gb1856, 4, none⟩) (Kd.R_far (p := ⟨gb1856, 3, none⟩) (Kd.R_far (p := ⟨gb1856, 2, none⟩) (Kd.R_far (p := ⟨gb1856, 1, none⟩) (Kd.R_far (p := ⟨gb1856, 0, none⟩) (Kd.R_types HO1846.out BK1856.out (by decide)) (fun _ hk => hk.2) (.int .i64 t1849)) (fun _ hk => hk.2) (.int .i64 t1850)) (fun _ hk => hk.2) (.int .i64 t1851)) (fun _ hk => hk.2) (.int .i64 t1852)) (fun _ hk => hk.2) (.slice Ao31 t1853.length co31)) (fun _ h_ => h_.1))) hb); have n1_ := zC.mk (Kd.R_below (by (with_reducible repeat (first | apply Kd.R_alloc | apply Kd.R_drewN | apply Kd.R_drew)); exact (Kd.R_mono (Kd.R_far (p := ⟨gb1856, 4, none⟩) (Kd.R_far (p := ⟨gb1856, 3, none⟩) (Kd.R_far (p := ⟨gb1856, 2, none⟩) (Kd.R_far (p := ⟨gb1856, 1, none⟩) (Kd.R_far (p := ⟨gb1856, 0, none⟩) (Kd.R_types HO1855.out BK1856.out (by decide)) (fun _ hk => hk.2) (.int .i64 t1849)) (fun _ hk => hk.2) (.int .i64 t1850)) (fun _ hk => hk.2) (.int .i64 t1851)) (fun _ hk => hk.2) (.int .i64 t1852)) (fun _ hk => hk.2) (.slice Ao31 t1853.length co31)) (fun _ h_ => h_.1))) hb); have n2_ := zC.mk (zK (g := gb1838) (o := .cells #[.int .i64 a0_0, .int .i64 a0_1, .int .i64 a0_2, .int .i64 a0_3, .slice A0_4 l0_4.length c0_4] 26 (0, 0)) (by (with_reducible repeat (first | refine zE ?_ _ | refine zI ?_ | refine zD ?_ _)); refine zW ?_ NB1838_1856.out _; (with_reducible repeat (first | refine zE ?_ _ | refine zI ?_ | refine zD ?_ _)); refine zW ?_ NB1838_1856.out _; (with_reducible repeat (first | refine zE ?_ _ | refine zI ?_ | refine zD ?_ _)); refine zW ?_ NB1838_1856.out _; (with_reducible repeat (first | refine zE ?_ _ | refine zI ?_ | refine zD ?_ _)); refine zW ?_ NB1838_1856.out _; (with_reducible repeat (first | refine zE ?_ _ | refine zI ?_ | refine zD ?_ _)); refine zW ?_ NB1838_1856.out _; (with_reducible repeat (first | refine zE ?_ _ | refine zI ?_ | refine zD ?_ _)); exact BK1838.out) hb); have n3_ := zC.mk (zK (g := gb1856) (o := .cells #[.int .i64 t1849, .int .i64 t1850, .int .i64 t1851, .int .i64 t1852, .slice Ao31 t1853.length co31] 30 (0, 0)) (by (with_reducible repeat (first | refine zE ?_ _ | refine zI ?_ | refine zD ?_ _)); refine zU (cs := #[.int .i64 t1849, .int .i64 t1850, .int .i64 t1851, .int .i64 t1852, .slice none 0 0]) ?_ 4 _ rfl; (with_reducible repeat (first | refine zE ?_ _ | refine zI ?_ | refine zD ?_ _)); refine zU (cs := #[.int .i64 t1849, .int .i64 t1850, .int .i64 t1851, .int .i64 0, .slice none 0 0]) ?_ 3 _ rfl; (with_reducible repeat (first | refine zE ?_ _ | refine zI ?_ | refine zD ?_ _)); refine zU (cs := #[.int .i64 t1849, .int .i64 t1850, .int .i64 0, .int .i64 0, .slice none 0 0]) ?_ 2 _ rfl; (with_reducible repeat (first | refine zE ?_ _ | refine zI ?_ | refine zD ?_ _)); refine zU (cs := #[.int .i64 t1849, .int .i64 0, .int .i64 0, .int .i64 0, .slice none 0 0]) ?_ 1 _ rfl; (with_reducible repeat (first | refine zE ?_ _ | refine zI ?_ | refine zD ?_ _)); refine zU (cs := #[.int .i64 0, .int .i64 0, .int .i64 0, .int .i64 0, .slice none 0 0]) ?_ 0 _ rfl; (with_reducible repeat (first | refine zE ?_ _ | refine zI ?_ | refine zD ?_ _)); exact BK1856.out) hb); have n4_ := zC.mk (zL (by repeat (first | (with_reducible first | exact HB.out | apply zG | apply zA | apply zF | refine zH ?_ GE1838.out | refine zH ?_ GE1856.out) | exact HB.out)) hb); clear HO1846; clear HO1855; clear BK1838; clear BK1856; clear HB; have HO1846 := n0_; have HO1855 := n1_; have BK1838 := n2_; have BK1856 := n3_; have HB := n4_; clear n0_ n1_ n2_ n3_ n4_; (try clear hb)))
     have n0_ := zC.mk (Kd.R_drew HO1846.out)
     have n1_ := zC.mk (Kd.R_drew HO1855.out)
     have n2_ := zC.mk (zI BK1838.out)
     have n3_ := zC.mk (zI BK1856.out)
     have n4_ := zC.mk (zF HB.out)
     clear HO1846
     clear HO1855
     clear BK1838
     clear BK1856
     clear HB
     have HO1846 := n0_
     have HO1855 := n1_
     have BK1838 := n2_
     have BK1856 := n3_
     have HB := n4_
     clear n0_ n1_ n2_ n3_ n4_
     refine start_ (n := 5) (S := fun w' => w'.cell? ⟨gb1856, 0, none⟩ = some (.int .i64 t1849) ∧ w'.cell? ⟨gb1856, 1, none⟩ = some (.int .i64 t1850) ∧ w'.cell? ⟨gb1856, 2, none⟩ = some (.int .i64 t1851) ∧ w'.cell? ⟨gb1856, 3, none⟩ = some (.int .i64 t1852) ∧ w'.cell? ⟨gb1856, 4, none⟩ = some (.slice Ao31 t1853.length co31) ∧ w'.cell? ⟨gb1838, 0, none⟩ = some (.int .i64 a0_0) ∧ w'.cell? ⟨gb1838, 1, none⟩ = some (.int .i64 a0_1) ∧ w'.cell? ⟨gb1838, 2, none⟩ = some (.int .i64 a0_2) ∧ w'.cell? ⟨gb1838, 3, none⟩ = some (.int .i64 a0_3) ∧ w'.cell? ⟨gb1838, 4, none⟩ = some (.slice A0_4 l0_4.length c0_4)) (ds := []) #[false, false, false, false, false] (by kernel_rfl) rfl rfl ⟨zB BK1856.out 0, zB BK1856.out 1, zB BK1856.out 2, zB BK1856.out 3, zB BK1856.out 4, zB BK1838.out 0, zB BK1838.out 1, zB BK1838.out 2, zB BK1838.out 3, zB BK1838.out 4⟩ (fun hHeld => ?_)
     generalize w32.drew = w33 at HO1846 HO1855 BK1838 BK1856 HB hHeld ⊢
     refine yC (i := 0) (N := some 47) (v := ?_) (a' := ?_) #[true, false, false, false, false] rfl rfl (by kernel_rfl) (fun _ _ _ h => h) (Or.inl ⟨by rfl, ?_⟩) hHeld ?_ ?_
     rotate_left
     ·
      rintro w' ⟨s0, s1, s2, s3, s4, s5, s6, s7, s8, s9⟩
      go_simp
      with_reducible rfl
     rotate_left
     ·
      go_simp
      rfl
     refine yC (i := 1) (N := some 48) (v := ?_) (a' := ?_) #[true, true, false, false, false] rfl rfl (by kernel_rfl) (fun _ _ _ h => h) (Or.inl ⟨by rfl, ?_⟩) hHeld ?_ ?_
     rotate_left
     ·
      rintro w' ⟨s0, s1, s2, s3, s4, s5, s6, s7, s8, s9⟩
      go_simp
      with_reducible rfl
     rotate_left
     ·
      go_simp
      rfl
     refine one_ (i := 2) (N := some 49) #[true, true, true, false, false] rfl rfl (by kernel_rfl) (by decide) (fun K hK => ?_)
     refine yD Try.func16 (by kernel_rfl) rfl #[.agg #[.int .i64 a0_0, .int .i64 a0_1, .int .i64 a0_2, .int .i64 a0_3, .slice A0_4 l0_4.length c0_4]] (by rfl) rfl rfl (by (try simp only [List.map_toArray, List.map_cons, List.map_nil]); first | done | rfl) ?_
     with_reducible refine (xF.calls k a0_0 a0_1 a0_2 a0_3 _ _ l0_4 t1859 t1860 t1861 t1862 t1863 _ ?side1 ?side2 A16.out).mono ?_
     (case side1 => repeat (first | exact (Kd.C_below HR0_4.out HB.out) | (with_reducible refine Kd.C_alloc ?_ _) | (with_reducible refine Kd.C_drewN ?_ _) | (with_reducible refine Kd.C_drew ?_)))
     (case side2 => exact HC0_4.out)
     rintro e w34 ⟨v1864, rfl, ho0, hb⟩
     refine ⟨_, rfl, ?_⟩
     have n0_ := zC.mk (Kd.R_elder' (by (with_reducible repeat (first | apply Kd.R_alloc | apply Kd.R_drewN | apply Kd.R_drew)); exact HO1846.out) (Kd.R_base ho0) hb)
     have n1_ := zC.mk (Kd.R_elder' (by (with_reducible repeat (first | apply Kd.R_alloc | apply Kd.R_drewN | apply Kd.R_drew)); exact HO1855.out) (Kd.R_base ho0) hb)
     have n2_ := zC.mk (Kd.R_lower (Kd.R_new' (Kd.R_new' ho0 (Kd.R_lt (by (with_reducible repeat (first | apply Kd.R_alloc | apply Kd.R_drewN | apply Kd.R_drew)); exact HO1846.out))) (Kd.R_lt (by (with_reducible repeat (first | apply Kd.R_alloc | apply Kd.R_drewN | apply Kd.R_drew)); exact HO1855.out))) (zM (by repeat (first | (with_reducible first | exact HB.out | apply zG | apply zA | apply zF | refine zH ?_ GE1838.out | refine zH ?_ GE1856.out) | exact HB.out))))
     have n3_ := zC.mk (zK (g := gb1838) (o := .cells #[.int .i64 a0_0, .int .i64 a0_1, .int .i64 a0_2, .int .i64 a0_3, .slice A0_4 l0_4.length c0_4] 26 (0, 0)) (by (with_reducible repeat (first | refine zE ?_ _ | refine zI ?_ | refine zD ?_ _)); exact BK1838.out) hb)
     have n4_ := zC.mk (zK (g := gb1856) (o := .cells #[.int .i64 t1849, .int .i64 t1850, .int .i64 t1851, .int .i64 t1852, .slice Ao31 t1853.length co31] 30 (0, 0)) (by (with_reducible repeat (first | refine zE ?_ _ | refine zI ?_ | refine zD ?_ _)); exact BK1856.out) hb)
     have n5_ := zC.mk (zL (by repeat (first | (with_reducible first | exact HB.out | apply zG | apply zA | apply zF | refine zH ?_ GE1838.out | refine zH ?_ GE1856.out) | exact HB.out)) hb)
     clear HO1846
     clear HO1855
     clear BK1838
     clear BK1856
     clear HB
     have HO1846 := n0_
     have HO1855 := n1_
     have HO1865 := n2_
     have BK1838 := n3_
     have BK1856 := n4_
     have HB := n5_
     clear n0_ n1_ n2_ n3_ n4_ n5_
     (try clear hb)
     (try clear ho0)
     obtain ⟨Ao35, co35, eo35⟩ := Kd.R_slice HO1865.out
     (first | subst eo35 | (injection eo35 with f1_ f2_ f3_; have f4_ := f1_.symm; have f5_ := f3_.symm; clear f1_ f2_ f3_; subst f4_; subst f5_))
     refine hK.out _ _ ⟨zB BK1856.out 0, zB BK1856.out 1, zB BK1856.out 2, zB BK1856.out 3, zB BK1856.out 4, zB BK1838.out 0, zB BK1838.out 1, zB BK1838.out 2, zB BK1838.out 3, zB BK1838.out 4⟩ (fun hHeld => ?_)
     clear hK K
     refine yA (a' := ?_) ?_ ?_
     rotate_left
     ·
      show Act.put _ (some 49) _ = _
      go_simp
      rfl
     refine one_ (i := 3) (N := some 50) #[true, true, true, true, false] rfl rfl (by kernel_rfl) (by decide) (fun K hK => ?_)
     refine yD Try.func18 (by kernel_rfl) rfl #[.agg #[.int .i64 t1849, .int .i64 t1850, .int .i64 t1851, .int .i64 t1852, .slice Ao31 t1853.length co31], .agg #[.int .i64 t1859, .int .i64 t1860, .int .i64 t1861, .int .i64 t1862, .slice Ao35 t1863.length co35]] (by rfl) rfl rfl (by (try simp only [List.map_toArray, List.map_cons, List.map_nil]); first | done | rfl) ?_
     with_reducible refine (xJ.calls k t1849 t1850 t1851 t1852 _ _ t1853 t1859 t1860 t1861 t1862 _ _ t1863 true _ ?side1 ?side2 ?side3 ?side4 A17.out).mono ?_
     (case side1 => repeat (first | exact (Kd.R_reads' HO1855.out).2.2 | (with_reducible refine Kd.C_alloc ?_ _) | (with_reducible refine Kd.C_drewN ?_ _) | (with_reducible refine Kd.C_drew ?_)))
     (case side2 => exact (Kd.R_reads' HO1855.out).2.1)
     (case side3 => repeat (first | exact (Kd.R_reads' HO1865.out).2.2 | (with_reducible refine Kd.C_alloc ?_ _) | (with_reducible refine Kd.C_drewN ?_ _) | (with_reducible refine Kd.C_drew ?_)))
     (case side4 => exact (Kd.R_reads' HO1865.out).2.1)
     rintro e w36 ⟨rfl, hb⟩
     refine ⟨_, rfl, ?_⟩
     have n0_ := zC.mk (Kd.R_below (by (with_reducible repeat (first | apply Kd.R_alloc | apply Kd.R_drewN | apply Kd.R_drew)); exact HO1846.out) hb)
     have n1_ := zC.mk (Kd.R_below (by (with_reducible repeat (first | apply Kd.R_alloc | apply Kd.R_drewN | apply Kd.R_drew)); exact HO1855.out) hb)
     have n2_ := zC.mk (Kd.R_below (by (with_reducible repeat (first | apply Kd.R_alloc | apply Kd.R_drewN | apply Kd.R_drew)); exact HO1865.out) hb)
     have n3_ := zC.mk (zK (g := gb1838) (o := .cells #[.int .i64 a0_0, .int .i64 a0_1, .int .i64 a0_2, .int .i64 a0_3, .slice A0_4 l0_4.length c0_4] 26 (0, 0)) (by (with_reducible repeat (first | refine zE ?_ _ | refine zI ?_ | refine zD ?_ _)); exact BK1838.out) hb)
     have n4_ := zC.mk (zK (g := gb1856) (o := .cells #[.int .i64 t1849, .int .i64 t1850, .int .i64 t1851, .int .i64 t1852, .slice Ao31 t1853.length co31] 30 (0, 0)) (by (with_reducible repeat (first | refine zE ?_ _ | refine zI ?_ | refine zD ?_ _)); exact BK1856.out) hb)
     have n5_ := zC.mk (zL (by repeat (first | (with_reducible first | exact HB.out | apply zG | apply zA | apply zF | refine zH ?_ GE1838.out | refine zH ?_ GE1856.out) | exact HB.out)) hb)
     clear HO1846
     clear HO1855
     clear HO1865
     clear BK1838
     clear BK1856
     clear HB
     have HO1846 := n0_
     have HO1855 := n1_
     have HO1865 := n2_
     have BK1838 := n3_
     have BK1856 := n4_
     have HB := n5_
     clear n0_ n1_ n2_ n3_ n4_ n5_
     (try clear hb)
     refine hK.out _ _ ⟨zB BK1856.out 0, zB BK1856.out 1, zB BK1856.out 2, zB BK1856.out 3, zB BK1856.out 4, zB BK1838.out 0, zB BK1838.out 1, zB BK1838.out 2, zB BK1838.out 3, zB BK1838.out 4⟩ (fun hHeld => ?_)
     clear hK K
     refine yA (a' := ?_) ?_ ?_
     rotate_left
     ·
      show Act.put _ (some 50) _ = _
      go_simp
      rfl
     refine zT (i := 4) (N := some 51) (v := ?_) (a' := ?_) #[true, true, true, true, true] rfl rfl (by kernel_rfl) (fun _ _ _ h => h) (Or.inl ⟨by rfl, ?_⟩) ?_ ?_
     rotate_left
     ·
      intro w'
      go_simp
      with_reducible rfl
     rotate_left
     ·
      go_simp
      rfl
     refine done_ (by kernel_rfl) ?_
     try go_wp2
     go_ret
     exact ⟨by first | rfl | (simp [*, errW_none, errW_some] <;> rfl), by repeat (first | (with_reducible first | exact HB.out | apply zG | apply zA | apply zF | refine zH ?_ GE1838.out | refine zH ?_ GE1856.out) | exact HB.out)⟩
    ·
     replace c18 := Bool.eq_false_iff.mpr c18
     subst c18
     have H1 : (none) = some r := by rw [if_neg (show ¬ (false = true) by decide)] at H; exact H
     clear H
     have H := H1
     clear H1
     exact absurd H (by simp)
   ·
    rw [if_neg c15] at H
    exact absurd H (by simp)
  ·
   rw [if_neg c14] at H
   exact absurd H (by simp)
end Go.Proofs.Ytomgliinndfliaa.X
