/- Part of the proof of the law FnExactRollLength: each function of the code computes what its plain function says. No condition of its own. -/
import Derived.Test.YtioendlbpendpaaCFnExactRollLengthW3
set_option maxHeartbeats 8000000
set_option maxRecDepth 100000
namespace Go.Proofs.Ytioendlbpendpaa.X
open Go.RowKit Go.Proofs.YtioendlbpendpaaW.PrintWords Go.Proofs.YtioendlbpendpaaW.PrintLast Go.Proofs.YtioendlbpendpaaW.PrintMore
attribute [local go_sem] max2_int min2_int max_two min_two max_three min_three max_four min_four   -- for this text's walks alone
set_option linter.unusedVariables false
set_option linter.unusedSimpArgs false

/-! ### xL: function 16 -/
theorem xL.calls (k : Nat) (a0_0 : Int) (a0_1 : Int) (a0_2 : Int) (a0_3 : Int) (A0_4 : Option Addr) (c0_4 : Nat) (l0_4 : List Int) (a1_0 : Int) (a1_1 : Int) (a1_2 : Int) (a1_3 : Int) (A1_4 : Option Addr) (c1_4 : Nat) (l1_4 : List Int) (r : Bool) (w : World) (hr0_4 : Kd.C (Kd.int .i64) w A0_4 l0_4.length l0_4) (hc0_4 : l0_4.length ≤ c0_4) (hr1_4 : Kd.C (Kd.int .i64) w A1_4 l1_4.length l1_4) (hc1_4 : l1_4.length ≤ c1_4) (h : xL.f k a0_0 a0_1 a0_2 a0_3 l0_4 a1_0 a1_1 a1_2 a1_3 l1_4 = some r) :
  Calls Try.prog 16 #[.agg #[.int .i64 a0_0, .int .i64 a0_1, .int .i64 a0_2, .int .i64 a0_3, .slice A0_4 l0_4.length c0_4], .agg #[.int .i64 a1_0, .int .i64 a1_1, .int .i64 a1_2, .int .i64 a1_3, .slice A1_4 l1_4.length c1_4]] w fun e w' => e = .returned (.bool r) ∧ Below w.heap.size w w' := by
 have hu32 := Try.underlying32
 have hu30 := Try.underlying30
 have HR0_4 := zC.mk hr0_4
 have HC0_4 := zC.mk hc0_4
 clear hr0_4 hc0_4
 have HR1_4 := zC.mk hr1_4
 have HC1_4 := zC.mk hc1_4
 clear hr1_4 hc1_4
 have HB := zC.mk (Below.refl w.heap.size w)
 have H : (if a0_0 = a1_0 then ((wE.f a0_1 a0_2 a0_3 a1_1 a1_2 a1_3).bind fun t441 => (if t441 = true then ((yY.f k l0_4 l1_4).bind fun t442 => (if t442 = true then (some true) else (some false))) else (some false))) else (some false)) = some r := h
 clear h
 by_cases c3 : a0_0 = a1_0
 ·
  rw [if_pos c3] at H
  have c3b0 : (a0_0 == a1_0) = true := beq_iff_eq.mpr c3
  have c3b1 : (a0_0 != a1_0) = false := bne_eq_false_iff_eq.mpr c3
  clear c3
  replace H := Option.bind_eq_some_iff.mp H
  obtain ⟨t441, A40, H⟩ := H
  replace H : (if t441 = true then ((yY.f k l0_4 l1_4).bind fun t442 => (if t442 = true then (some true) else (some false))) else (some false)) = some r := H
  have A4 := zC.mk A40
  clear A40
  by_cases c5 : t441 = true
  ·
   subst c5
   have H1 : ((yY.f k l0_4 l1_4).bind fun t442 => (if t442 = true then (some true) else (some false))) = some r := by rw [if_pos rfl] at H; exact H
   clear H
   have H := H1
   clear H1
   replace H := Option.bind_eq_some_iff.mp H
   obtain ⟨t442, A60, H⟩ := H
   replace H : (if t442 = true then (some true) else (some false)) = some r := H
   have A6 := zC.mk A60
   clear A60
   by_cases c7 : t442 = true
   ·
    subst c7
    have H1 : (some true) = some r := by rw [if_pos rfl] at H; exact H
    clear H
    have H := H1
    clear H1
    obtain rfl := Option.some.inj H
    go_enter Try.func16, Try.ntmps16
    go_wp2_with (first | ((with_reducible refine zP (N := 2) rfl ?_); refine zN ?hg (N := 2) ?hd (cs := #[.int .i64 a0_0, .int .i64 a0_1, .int .i64 a0_2, .int .i64 a0_3, .slice A0_4 l0_4.length c0_4]) (t := 32) ?hr ?_; (case hd => rfl); (case hg => rfl); (case hr => first | (go_simp; done) | (go_simp; rfl)); intro gb439 hg w8 hbox hb; have n0_ := zC.mk (zL (by repeat (first | (with_reducible first | exact HB.out | apply zG | apply zA | apply zD) | exact HB.out)) hb); have n1_ := zC.mk (hbox); have n2_ := zC.mk ((by rw [hg]; exact (zM (by repeat (first | (with_reducible first | exact HB.out | apply zG | apply zA | apply zD) | exact HB.out))) : w.heap.size ≤ gb439)); have n3_ := n2_; clear HB; have HB := n0_; have BK439 := n1_; have GW439 := n2_; have GE439 := n3_; clear n0_ n1_ n2_ n3_; clear hb hbox hg) | ((with_reducible refine zP (N := 3) rfl ?_); refine zN ?hg (N := 3) ?hd (cs := #[.int .i64 a1_0, .int .i64 a1_1, .int .i64 a1_2, .int .i64 a1_3, .slice A1_4 l1_4.length c1_4]) (t := 32) ?hr ?_; (case hd => rfl); (case hg => rfl); (case hr => first | (go_simp; done) | (go_simp; rfl)); intro gb440 hg w9 hbox hb; have n0_ := zC.mk (zK (g := gb439) (o := .cells #[.int .i64 a0_0, .int .i64 a0_1, .int .i64 a0_2, .int .i64 a0_3, .slice A0_4 l0_4.length c0_4] 32 (0, 0)) (by (with_reducible repeat (first | refine zF ?_ _ | refine zI ?_ | refine zE ?_ _)); exact BK439.out) hb); have n1_ := zC.mk (zL (by repeat (first | (with_reducible first | exact HB.out | apply zG | apply zA | apply zD | refine zH ?_ GE439.out) | exact HB.out)) hb); have n2_ := zC.mk (hbox); have n3_ := zC.mk ((by rw [hg]; exact (zM (by repeat (first | (with_reducible first | exact HB.out | apply zG | apply zA | apply zD | refine zH ?_ GE439.out) | exact HB.out))) : w.heap.size ≤ gb440)); have n4_ := n3_; have n5_ := zC.mk ((by rw [hg]; exact Nat.ne_of_lt (zV (by (with_reducible repeat (first | refine zF ?_ _ | refine zI ?_ | refine zE ?_ _)); exact BK439.out)) : gb439 ≠ gb440)); have n6_ := zC.mk n5_.out.symm; clear BK439; clear HB; have BK439 := n0_; have HB := n1_; have BK440 := n2_; have GW440 := n3_; have GE440 := n4_; have NB439_440 := n5_; have NB440_439 := n6_; clear n0_ n1_ n2_ n3_ n4_ n5_ n6_; clear hb hbox hg; have hnb10 := NB439_440.out; have hnc10 := NB440_439.out; have hcz11_0 : w9.cell? ⟨gb439, 0, none⟩ = some (.int .i64 a0_0) := zB BK439.out 0; have hcz11_1 : w9.cell? ⟨gb439, 1, none⟩ = some (.int .i64 a0_1) := zB BK439.out 1; have hcz11_2 : w9.cell? ⟨gb439, 2, none⟩ = some (.int .i64 a0_2) := zB BK439.out 2; have hcz11_3 : w9.cell? ⟨gb439, 3, none⟩ = some (.int .i64 a0_3) := zB BK439.out 3; have hcz11_4 : w9.cell? ⟨gb439, 4, none⟩ = some (.slice A0_4 l0_4.length c0_4) := zB BK439.out 4; have hcz12_0 : w9.cell? ⟨gb440, 0, none⟩ = some (.int .i64 a1_0) := zB BK440.out 0; have hcz12_1 : w9.cell? ⟨gb440, 1, none⟩ = some (.int .i64 a1_1) := zB BK440.out 1; have hcz12_2 : w9.cell? ⟨gb440, 2, none⟩ = some (.int .i64 a1_2) := zB BK440.out 2; have hcz12_3 : w9.cell? ⟨gb440, 3, none⟩ = some (.int .i64 a1_3) := zB BK440.out 3; have hcz12_4 : w9.cell? ⟨gb440, 4, none⟩ = some (.slice A1_4 l1_4.length c1_4) := zB BK440.out 4) | ((with_reducible refine zQ (f := 51) rfl ?_); refine zX (some 14) rfl rfl Try.func51 (by kernel_rfl) rfl #[.agg #[.int .i64 a0_1, .int .i64 a0_2, .int .i64 a0_3], .agg #[.int .i64 a1_1, .int .i64 a1_2, .int .i64 a1_3]] rfl (by (try simp only [List.map_toArray, List.map_cons, List.map_nil]); first | done | rfl) ?_; (with_reducible refine (wE.calls a0_1 a0_2 a0_3 a1_1 a1_2 a1_3 true _ A4.out).mono ?_); rintro e w13 ⟨rfl, hb⟩; refine ⟨_, rfl, ?_⟩; have n0_ := zC.mk (zK (g := gb439) (o := .cells #[.int .i64 a0_0, .int .i64 a0_1, .int .i64 a0_2, .int .i64 a0_3, .slice A0_4 l0_4.length c0_4] 32 (0, 0)) (by (with_reducible repeat (first | refine zF ?_ _ | refine zI ?_ | refine zE ?_ _)); exact BK439.out) hb); have n1_ := zC.mk (zK (g := gb440) (o := .cells #[.int .i64 a1_0, .int .i64 a1_1, .int .i64 a1_2, .int .i64 a1_3, .slice A1_4 l1_4.length c1_4] 32 (0, 0)) (by (with_reducible repeat (first | refine zF ?_ _ | refine zI ?_ | refine zE ?_ _)); exact BK440.out) hb); have n2_ := zC.mk (zL (by repeat (first | (with_reducible first | exact HB.out | apply zG | apply zA | apply zD | refine zH ?_ GE439.out | refine zH ?_ GE440.out) | exact HB.out)) hb); clear BK439; clear BK440; clear HB; have BK439 := n0_; have BK440 := n1_; have HB := n2_; clear n0_ n1_ n2_; (try clear hb); have hcz14_0 : w13.cell? ⟨gb439, 0, none⟩ = some (.int .i64 a0_0) := zB BK439.out 0; have hcz14_1 : w13.cell? ⟨gb439, 1, none⟩ = some (.int .i64 a0_1) := zB BK439.out 1; have hcz14_2 : w13.cell? ⟨gb439, 2, none⟩ = some (.int .i64 a0_2) := zB BK439.out 2; have hcz14_3 : w13.cell? ⟨gb439, 3, none⟩ = some (.int .i64 a0_3) := zB BK439.out 3; have hcz14_4 : w13.cell? ⟨gb439, 4, none⟩ = some (.slice A0_4 l0_4.length c0_4) := zB BK439.out 4; have hcz15_0 : w13.cell? ⟨gb440, 0, none⟩ = some (.int .i64 a1_0) := zB BK440.out 0; have hcz15_1 : w13.cell? ⟨gb440, 1, none⟩ = some (.int .i64 a1_1) := zB BK440.out 1; have hcz15_2 : w13.cell? ⟨gb440, 2, none⟩ = some (.int .i64 a1_2) := zB BK440.out 2; have hcz15_3 : w13.cell? ⟨gb440, 3, none⟩ = some (.int .i64 a1_3) := zB BK440.out 3; have hcz15_4 : w13.cell? ⟨gb440, 4, none⟩ = some (.slice A1_4 l1_4.length c1_4) := zB BK440.out 4) | ((with_reducible refine zQ (f := 19) rfl ?_); refine zX (some 20) rfl rfl Try.func19 (by kernel_rfl) rfl #[.slice A0_4 l0_4.length c0_4, .slice A1_4 l1_4.length c1_4] rfl (by (try simp only [List.map_toArray, List.map_cons, List.map_nil]); first | done | rfl) ?_; (with_reducible refine (yY.calls k _ _ l0_4 _ _ l1_4 true _ ?side1 ?side2 ?side3 ?side4 A6.out).mono ?_); (case side1 => repeat (first | exact (Kd.C_below HR0_4.out HB.out) | (with_reducible refine Kd.C_alloc ?_ _) | (with_reducible refine Kd.C_drewN ?_ _) | (with_reducible refine Kd.C_drew ?_))); (case side2 => exact HC0_4.out); (case side3 => repeat (first | exact (Kd.C_below HR1_4.out HB.out) | (with_reducible refine Kd.C_alloc ?_ _) | (with_reducible refine Kd.C_drewN ?_ _) | (with_reducible refine Kd.C_drew ?_))); (case side4 => exact HC1_4.out); rintro e w' ⟨rfl, ⟨nd, rfl⟩⟩; refine ⟨_, rfl, ?_⟩))
    go_ret
    exact ⟨by first | rfl | (simp [*, errW_none, errW_some] <;> rfl), by repeat (first | (with_reducible first | exact HB.out | apply zG | apply zA | apply zD | refine zH ?_ GE439.out | refine zH ?_ GE440.out) | exact HB.out)⟩
   ·
    replace c7 := Bool.eq_false_iff.mpr c7
    subst c7
    have H1 : (some false) = some r := by rw [if_neg (show ¬ (false = true) by decide)] at H; exact H
    clear H
    have H := H1
    clear H1
    obtain rfl := Option.some.inj H
    go_enter Try.func16, Try.ntmps16
    go_wp2_with (first | ((with_reducible refine zP (N := 2) rfl ?_); refine zN ?hg (N := 2) ?hd (cs := #[.int .i64 a0_0, .int .i64 a0_1, .int .i64 a0_2, .int .i64 a0_3, .slice A0_4 l0_4.length c0_4]) (t := 32) ?hr ?_; (case hd => rfl); (case hg => rfl); (case hr => first | (go_simp; done) | (go_simp; rfl)); intro gb439 hg w16 hbox hb; have n0_ := zC.mk (zL (by repeat (first | (with_reducible first | exact HB.out | apply zG | apply zA | apply zD) | exact HB.out)) hb); have n1_ := zC.mk (hbox); have n2_ := zC.mk ((by rw [hg]; exact (zM (by repeat (first | (with_reducible first | exact HB.out | apply zG | apply zA | apply zD) | exact HB.out))) : w.heap.size ≤ gb439)); have n3_ := n2_; clear HB; have HB := n0_; have BK439 := n1_; have GW439 := n2_; have GE439 := n3_; clear n0_ n1_ n2_ n3_; clear hb hbox hg) | ((with_reducible refine zP (N := 3) rfl ?_); refine zN ?hg (N := 3) ?hd (cs := #[.int .i64 a1_0, .int .i64 a1_1, .int .i64 a1_2, .int .i64 a1_3, .slice A1_4 l1_4.length c1_4]) (t := 32) ?hr ?_; (case hd => rfl); (case hg => rfl); (case hr => first | (go_simp; done) | (go_simp; rfl)); intro gb440 hg w17 hbox hb; have n0_ := zC.mk (zK (g := gb439) (o := .cells #[.int .i64 a0_0, .int .i64 a0_1, .int .i64 a0_2, .int .i64 a0_3, .slice A0_4 l0_4.length c0_4] 32 (0, 0)) (by (with_reducible repeat (first | refine zF ?_ _ | refine zI ?_ | refine zE ?_ _)); exact BK439.out) hb); have n1_ := zC.mk (zL (by repeat (first | (with_reducible first | exact HB.out | apply zG | apply zA | apply zD | refine zH ?_ GE439.out) | exact HB.out)) hb); have n2_ := zC.mk (hbox); have n3_ := zC.mk ((by rw [hg]; exact (zM (by repeat (first | (with_reducible first | exact HB.out | apply zG | apply zA | apply zD | refine zH ?_ GE439.out) | exact HB.out))) : w.heap.size ≤ gb440)); have n4_ := n3_; have n5_ := zC.mk ((by rw [hg]; exact Nat.ne_of_lt (zV (by (with_reducible repeat (first | refine zF ?_ _ | refine zI ?_ | refine zE ?_ _)); exact BK439.out)) : gb439 ≠ gb440)); have n6_ := zC.mk n5_.out.symm; clear BK439; clear HB; have BK439 := n0_; have HB := n1_; have BK440 := n2_; have GW440 := n3_; have GE440 := n4_; have NB439_440 := n5_; have NB440_439 := n6_; clear n0_ n1_ n2_ n3_ n4_ n5_ n6_; clear hb hbox hg; have hnb18 := NB439_440.out; have hnc18 := NB440_439.out; have hcz19_0 : w17.cell? ⟨gb439, 0, none⟩ = some (.int .i64 a0_0) := zB BK439.out 0; have hcz19_1 : w17.cell? ⟨gb439, 1, none⟩ = some (.int .i64 a0_1) := zB BK439.out 1; have hcz19_2 : w17.cell? ⟨gb439, 2, none⟩ = some (.int .i64 a0_2) := zB BK439.out 2; have hcz19_3 : w17.cell? ⟨gb439, 3, none⟩ = some (.int .i64 a0_3) := zB BK439.out 3; have hcz19_4 : w17.cell? ⟨gb439, 4, none⟩ = some (.slice A0_4 l0_4.length c0_4) := zB BK439.out 4; have hcz20_0 : w17.cell? ⟨gb440, 0, none⟩ = some (.int .i64 a1_0) := zB BK440.out 0; have hcz20_1 : w17.cell? ⟨gb440, 1, none⟩ = some (.int .i64 a1_1) := zB BK440.out 1; have hcz20_2 : w17.cell? ⟨gb440, 2, none⟩ = some (.int .i64 a1_2) := zB BK440.out 2; have hcz20_3 : w17.cell? ⟨gb440, 3, none⟩ = some (.int .i64 a1_3) := zB BK440.out 3; have hcz20_4 : w17.cell? ⟨gb440, 4, none⟩ = some (.slice A1_4 l1_4.length c1_4) := zB BK440.out 4) | ((with_reducible refine zQ (f := 51) rfl ?_); refine zX (some 14) rfl rfl Try.func51 (by kernel_rfl) rfl #[.agg #[.int .i64 a0_1, .int .i64 a0_2, .int .i64 a0_3], .agg #[.int .i64 a1_1, .int .i64 a1_2, .int .i64 a1_3]] rfl (by (try simp only [List.map_toArray, List.map_cons, List.map_nil]); first | done | rfl) ?_; (with_reducible refine (wE.calls a0_1 a0_2 a0_3 a1_1 a1_2 a1_3 true _ A4.out).mono ?_); rintro e w21 ⟨rfl, hb⟩; refine ⟨_, rfl, ?_⟩; have n0_ := zC.mk (zK (g := gb439) (o := .cells #[.int .i64 a0_0, .int .i64 a0_1, .int .i64 a0_2, .int .i64 a0_3, .slice A0_4 l0_4.length c0_4] 32 (0, 0)) (by (with_reducible repeat (first | refine zF ?_ _ | refine zI ?_ | refine zE ?_ _)); exact BK439.out) hb); have n1_ := zC.mk (zK (g := gb440) (o := .cells #[.int .i64 a1_0, .int .i64 a1_1, .int .i64 a1_2, .int .i64 a1_3, .slice A1_4 l1_4.length c1_4] 32 (0, 0)) (by (with_reducible repeat (first | refine zF ?_ _ | refine zI ?_ | refine zE ?_ _)); exact BK440.out) hb); have n2_ := zC.mk (zL (by repeat (first | (with_reducible first | exact HB.out | apply zG | apply zA | apply zD | refine zH ?_ GE439.out | refine zH ?_ GE440.out) | exact HB.out)) hb); clear BK439; clear BK440; clear HB; have BK439 := n0_; have BK440 := n1_; have HB := n2_; clear n0_ n1_ n2_; (try clear hb); have hcz22_0 : w21.cell? ⟨gb439, 0, none⟩ = some (.int .i64 a0_0) := zB BK439.out 0; have hcz22_1 : w21.cell? ⟨gb439, 1, none⟩ = some (.int .i64 a0_1) := zB BK439.out 1; have hcz22_2 : w21.cell? ⟨gb439, 2, none⟩ = some (.int .i64 a0_2) := zB BK439.out 2; have hcz22_3 : w21.cell? ⟨gb439, 3, none⟩ = some (.int .i64 a0_3) := zB BK439.out 3; have hcz22_4 : w21.cell? ⟨gb439, 4, none⟩ = some (.slice A0_4 l0_4.length c0_4) := zB BK439.out 4; have hcz23_0 : w21.cell? ⟨gb440, 0, none⟩ = some (.int .i64 a1_0) := zB BK440.out 0; have hcz23_1 : w21.cell? ⟨gb440, 1, none⟩ = some (.int .i64 a1_1) := zB BK440.out 1; have hcz23_2 : w21.cell? ⟨gb440, 2, none⟩ = some (.int .i64 a1_2) := zB BK440.out 2; have hcz23_3 : w21.cell? ⟨gb440, 3, none⟩ = some (.int .i64 a1_3) := zB BK440.out 3; have hcz23_4 : w21.cell? ⟨gb440, 4, none⟩ = some (.slice A1_4 l1_4.length c1_4) := zB BK440.out 4) | ((with_reducible refine zQ (f := 19) rfl ?_); refine zX (some 20) rfl rfl Try.func19 (by kernel_rfl) rfl #[.slice A0_4 l0_4.length c0_4, .slice A1_4 l1_4.length c1_4] rfl (by (try simp only [List.map_toArray, List.map_cons, List.map_nil]); first | done | rfl) ?_; (with_reducible refine (yY.calls k _ _ l0_4 _ _ l1_4 false _ ?side1 ?side2 ?side3 ?side4 A6.out).mono ?_); (case side1 => repeat (first | exact (Kd.C_below HR0_4.out HB.out) | (with_reducible refine Kd.C_alloc ?_ _) | (with_reducible refine Kd.C_drewN ?_ _) | (with_reducible refine Kd.C_drew ?_))); (case side2 => exact HC0_4.out); (case side3 => repeat (first | exact (Kd.C_below HR1_4.out HB.out) | (with_reducible refine Kd.C_alloc ?_ _) | (with_reducible refine Kd.C_drewN ?_ _) | (with_reducible refine Kd.C_drew ?_))); (case side4 => exact HC1_4.out); rintro e w' ⟨rfl, ⟨nd, rfl⟩⟩; refine ⟨_, rfl, ?_⟩))
    go_ret
    exact ⟨by first | rfl | (simp [*, errW_none, errW_some] <;> rfl), by repeat (first | (with_reducible first | exact HB.out | apply zG | apply zA | apply zD | refine zH ?_ GE439.out | refine zH ?_ GE440.out) | exact HB.out)⟩
  ·
   replace c5 := Bool.eq_false_iff.mpr c5
   subst c5
   have H1 : (some false) = some r := by rw [if_neg (show ¬ (false = true) by decide)] at H; exact H
   clear H
   have H := H1
   clear H1
   obtain rfl := Option.some.inj H
   go_enter Try.func16, Try.ntmps16
   go_wp2_with (first | ((with_reducible refine zP (N := 2) rfl ?_); refine zN ?hg (N := 2) ?hd (cs := #[.int .i64 a0_0, .int .i64 a0_1, .int .i64 a0_2, .int .i64 a0_3, .slice A0_4 l0_4.length c0_4]) (t := 32) ?hr ?_; (case hd => rfl); (case hg => rfl); (case hr => first | (go_simp; done) | (go_simp; rfl)); intro gb439 hg w24 hbox hb; have n0_ := zC.mk (zL (by repeat (first | (with_reducible first | exact HB.out | apply zG | apply zA | apply zD) | exact HB.out)) hb); have n1_ := zC.mk (hbox); have n2_ := zC.mk ((by rw [hg]; exact (zM (by repeat (first | (with_reducible first | exact HB.out | apply zG | apply zA | apply zD) | exact HB.out))) : w.heap.size ≤ gb439)); have n3_ := n2_; clear HB; have HB := n0_; have BK439 := n1_; have GW439 := n2_; have GE439 := n3_; clear n0_ n1_ n2_ n3_; clear hb hbox hg) | ((with_reducible refine zP (N := 3) rfl ?_); refine zN ?hg (N := 3) ?hd (cs := #[.int .i64 a1_0, .int .i64 a1_1, .int .i64 a1_2, .int .i64 a1_3, .slice A1_4 l1_4.length c1_4]) (t := 32) ?hr ?_; (case hd => rfl); (case hg => rfl); (case hr => first | (go_simp; done) | (go_simp; rfl)); intro gb440 hg w25 hbox hb; have n0_ := zC.mk (zK (g := gb439) (o := .cells #[.int .i64 a0_0, .int .i64 a0_1, .int .i64 a0_2, .int .i64 a0_3, .slice A0_4 l0_4.length c0_4] 32 (0, 0)) (by (with_reducible repeat (first | refine zF ?_ _ | refine zI ?_ | refine zE ?_ _)); exact BK439.out) hb); have n1_ := zC.mk (zL (by repeat (first | (with_reducible first | exact HB.out | apply zG | apply zA | apply zD | refine zH ?_ GE439.out) | exact HB.out)) hb); have n2_ := zC.mk (hbox); have n3_ := zC.mk ((by rw [hg]; exact (zM (by repeat (first | (with_reducible first | exact HB.out | apply zG | apply zA | apply zD | refine zH ?_ GE439.out) | exact HB.out))) : w.heap.size ≤ gb440)); have n4_ := n3_; have n5_ := zC.mk ((by rw [hg]; exact Nat.ne_of_lt (zV (by (with_reducible repeat (first | refine zF ?_ _ | refine zI ?_ | refine zE ?_ _)); exact BK439.out)) : gb439 ≠ gb440)); have n6_ := zC.mk n5_.out.symm; clear BK439; clear HB; have BK439 := n0_; have HB := n1_; have BK440 := n2_; have GW440 := n3_; have GE440 := n4_; have NB439_440 := n5_; have NB440_439 := n6_; clear n0_ n1_ n2_ n3_ n4_ n5_ n6_; clear hb hbox hg; have hnb26 := NB439_440.out; have hnc26 := NB440_439.out; have hcz27_0 : w25.cell? ⟨gb439, 0, none⟩ = some (.int .i64 a0_0) := zB BK439.out 0; have hcz27_1 : w25.cell? ⟨gb439, 1, none⟩ = some (.int .i64 a0_1) := zB BK439.out 1; have hcz27_2 : w25.cell? ⟨gb439, 2, none⟩ = some (.int .i64 a0_2) := zB BK439.out 2; have hcz27_3 : w25.cell? ⟨gb439, 3, none⟩ = some (.int .i64 a0_3) := zB BK439.out 3; have hcz27_4 : w25.cell? ⟨gb439, 4, none⟩ = some (.slice A0_4 l0_4.length c0_4) := zB BK439.out 4; have hcz28_0 : w25.cell? ⟨gb440, 0, none⟩ = some (.int .i64 a1_0) := zB BK440.out 0; have hcz28_1 : w25.cell? ⟨gb440, 1, none⟩ = some (.int .i64 a1_1) := zB BK440.out 1; have hcz28_2 : w25.cell? ⟨gb440, 2, none⟩ = some (.int .i64 a1_2) := zB BK440.out 2; have hcz28_3 : w25.cell? ⟨gb440, 3, none⟩ = some (.int .i64 a1_3) := zB BK440.out 3; have hcz28_4 : w25.cell? ⟨gb440, 4, none⟩ = some (.slice A1_4 l1_4.length c1_4) := zB BK440.out 4) | ((with_reducible refine zQ (f := 51) rfl ?_); refine zX (some 14) rfl rfl Try.func51 (by kernel_rfl) rfl #[.agg #[.int .i64 a0_1, .int .i64 a0_2, .int .i64 a0_3], .agg #[.int .i64 a1_1, .int .i64 a1_2, .int .i64 a1_3]] rfl (by (try simp only [List.map_toArray, List.map_cons, List.map_nil]); first | done | rfl) ?_; (with_reducible refine (wE.calls a0_1 a0_2 a0_3 a1_1 a1_2 a1_3 false _ A4.out).mono ?_); rintro e w29 ⟨rfl, hb⟩; refine ⟨_, rfl, ?_⟩; have n0_ := zC.mk (zK (g := gb439) (o := .cells #[.int .i64 a0_0, .int .i64 a0_1, .int .i64 a0_2, .int .i64 a0_3, .slice A0_4 l0_4.length c0_4] 32 (0, 0)) (by (with_reducible repeat (first | refine zF ?_ _ | refine zI ?_ | refine zE ?_ _)); exact BK439.out) hb); have n1_ := zC.mk (zK (g := gb440) (o := .cells #[.int .i64 a1_0, .int .i64 a1_1, .int .i64 a1_2, .int .i64 a1_3, .slice A1_4 l1_4.length c1_4] 32 (0, 0)) (by (with_reducible repeat (first | refine zF ?_ _ | refine zI ?_ | refine zE ?_ _)); exact BK440.out) hb); have n2_ := zC.mk (zL (by repeat (first | (with_reducible first | exact HB.out | apply zG | apply zA | apply zD | refine zH ?_ GE439.out | refine zH ?_ GE440.out) | exact HB.out)) hb); clear BK439; clear BK440; clear HB; have BK439 := n0_; have BK440 := n1_; have HB := n2_; clear n0_ n1_ n2_; (try clear hb)))
   go_ret
   exact ⟨by first | rfl | (simp [*, errW_none, errW_some] <;> rfl), by repeat (first | (with_reducible first | exact HB.out | apply zG | apply zA | apply zD | refine zH ?_ GE439.out | refine zH ?_ GE440.out) | exact HB.out)⟩
 ·
  rw [if_neg c3] at H
  have c3b0 : (a0_0 == a1_0) = false := beq_eq_false_iff_ne.mpr c3
  have c3b1 : (a0_0 != a1_0) = true := bne_iff_ne.mpr c3
  obtain rfl := Option.some.inj H
  go_enter Try.func16, Try.ntmps16
  go_wp2_with (first | ((with_reducible refine zP (N := 2) rfl ?_); refine zN ?hg (N := 2) ?hd (cs := #[.int .i64 a0_0, .int .i64 a0_1, .int .i64 a0_2, .int .i64 a0_3, .slice A0_4 l0_4.length c0_4]) (t := 32) ?hr ?_; (case hd => rfl); (case hg => rfl); (case hr => first | (go_simp; done) | (go_simp; rfl)); intro gb439 hg w30 hbox hb; have n0_ := zC.mk (zL (by repeat (first | (with_reducible first | exact HB.out | apply zG | apply zA | apply zD) | exact HB.out)) hb); have n1_ := zC.mk (hbox); have n2_ := zC.mk ((by rw [hg]; exact (zM (by repeat (first | (with_reducible first | exact HB.out | apply zG | apply zA | apply zD) | exact HB.out))) : w.heap.size ≤ gb439)); have n3_ := n2_; clear HB; have HB := n0_; have BK439 := n1_; have GW439 := n2_; have GE439 := n3_; clear n0_ n1_ n2_ n3_; clear hb hbox hg) | ((with_reducible refine zP (N := 3) rfl ?_); refine zN ?hg (N := 3) ?hd (cs := #[.int .i64 a1_0, .int .i64 a1_1, .int .i64 a1_2, .int .i64 a1_3, .slice A1_4 l1_4.length c1_4]) (t := 32) ?hr ?_; (case hd => rfl); (case hg => rfl); (case hr => first | (go_simp; done) | (go_simp; rfl)); intro gb440 hg w31 hbox hb; have n0_ := zC.mk (zK (g := gb439) (o := .cells #[.int .i64 a0_0, .int .i64 a0_1, .int .i64 a0_2, .int .i64 a0_3, .slice A0_4 l0_4.length c0_4] 32 (0, 0)) (by (with_reducible repeat (first | refine zF ?_ _ | refine zI ?_ | refine zE ?_ _)); exact BK439.out) hb); have n1_ := zC.mk (zL (by repeat (first | (with_reducible first | exact HB.out | apply zG | apply zA | apply zD | refine zH ?_ GE439.out) | exact HB.out)) hb); have n2_ := zC.mk (hbox); have n3_ := zC.mk ((by rw [hg]; exact (zM (by repeat (first | (with_reducible first | exact HB.out | apply zG | apply zA | apply zD | refine zH ?_ GE439.out) | exact HB.out))) : w.heap.size ≤ gb440)); have n4_ := n3_; have n5_ := zC.mk ((by rw [hg]; exact Nat.ne_of_lt (zV (by (with_reducible repeat (first | refine zF ?_ _ | refine zI ?_ | refine zE ?_ _)); exact BK439.out)) : gb439 ≠ gb440)); have n6_ := zC.mk n5_.out.symm; clear BK439; clear HB; have BK439 := n0_; have HB := n1_; have BK440 := n2_; have GW440 := n3_; have GE440 := n4_; have NB439_440 := n5_; have NB440_439 := n6_; clear n0_ n1_ n2_ n3_ n4_ n5_ n6_; clear hb hbox hg; have hnb32 := NB439_440.out; have hnc32 := NB440_439.out; have hcz33_0 : w31.cell? ⟨gb439, 0, none⟩ = some (.int .i64 a0_0) := zB BK439.out 0; have hcz33_1 : w31.cell? ⟨gb439, 1, none⟩ = some (.int .i64 a0_1) := zB BK439.out 1; have hcz33_2 : w31.cell? ⟨gb439, 2, none⟩ = some (.int .i64 a0_2) := zB BK439.out 2; have hcz33_3 : w31.cell? ⟨gb439, 3, none⟩ = some (.int .i64 a0_3) := zB BK439.out 3; have hcz33_4 : w31.cell? ⟨gb439, 4, none⟩ = some (.slice A0_4 l0_4.length c0_4) := zB BK439.out 4; have hcz34_0 : w31.cell? ⟨gb440, 0, none⟩ = some (.int .i64 a1_0) := zB BK440.out 0; have hcz34_1 : w31.cell? ⟨gb440, 1, none⟩ = some (.int .i64 a1_1) := zB BK440.out 1; have hcz34_2 : w31.cell? ⟨gb440, 2, none⟩ = some (.int .i64 a1_2) := zB BK440.out 2; have hcz34_3 : w31.cell? ⟨gb440, 3, none⟩ = some (.int .i64 a1_3) := zB BK440.out 3; have hcz34_4 : w31.cell? ⟨gb440, 4, none⟩ = some (.slice A1_4 l1_4.length c1_4) := zB BK440.out 4))
  go_ret
  exact ⟨by first | rfl | (simp [*, errW_none, errW_some] <;> rfl), by repeat (first | (with_reducible first | exact HB.out | apply zG | apply zA | apply zD | refine zH ?_ GE439.out | refine zH ?_ GE440.out) | exact HB.out)⟩


/-! ### xF: function 3 -/
theorem xF.calls (k : Nat) (a0_0 : Int) (a0_1 : Int) (a0_2 : Int) (a0_3 : Int) (A0_4 : Option Addr) (c0_4 : Nat) (l0_4 : List Int) (a1 : Int) (a2 : Int) (a3 : Int) (r : Bool) (w : World) (hr0_4 : Kd.C (Kd.int .i64) w A0_4 l0_4.length l0_4) (hc0_4 : l0_4.length ≤ c0_4) (h : xF.f k a0_0 a0_1 a0_2 a0_3 l0_4 a1 a2 a3 = some r) :
  Calls Try.prog 3 #[.agg #[.int .i64 a0_0, .int .i64 a0_1, .int .i64 a0_2, .int .i64 a0_3, .slice A0_4 l0_4.length c0_4], .int .i64 a1, .int .i64 a2, .int .i64 a3] w fun e w' => e = .returned (.bool r) ∧ Below w.heap.size w w' := by
 have hu26 := Try.underlying26
 have hu32 := Try.underlying32
 have HR0_4 := zC.mk hr0_4
 have HC0_4 := zC.mk hc0_4
 clear hr0_4 hc0_4
 have HB := zC.mk (Below.refl w.heap.size w)
 have H : ((wL.f a0_0 a0_1 a0_2 a0_3 l0_4 1048576).bind fun t444 => (if t444 < 0 then (some true) else ((xG.f k a0_0 a0_1 a0_2 a0_3 l0_4).bind fun bt445 => ((xM.f k bt445.1 bt445.2.1 bt445.2.2.1 bt445.2.2.2.1 bt445.2.2.2.2 a1 a2 a3).bind fun bt452 => ((xG.f k a0_0 a0_1 a0_2 a0_3 l0_4).bind fun bt454 => ((xK.f k bt454.1 bt454.2.1 bt454.2.2.1 bt454.2.2.2.1 bt454.2.2.2.2 a1 a2 a3).bind fun bt462 => (if bt462.1 = bt452.1 then (if bt462.2 = bt452.2 then ((xG.f k a0_0 a0_1 a0_2 a0_3 l0_4).bind fun bt464 => ((xL.f k bt454.1 bt454.2.1 bt454.2.2.1 bt454.2.2.2.1 bt454.2.2.2.2 bt464.1 bt464.2.1 bt464.2.2.1 bt464.2.2.2.1 bt464.2.2.2.2).bind fun t471 => (if t471 = true then (some true) else (none)))) else (none)) else (none)))))))) = some r := h
 clear h
 replace H := Option.bind_eq_some_iff.mp H
 obtain ⟨t444, A50, H⟩ := H
 replace H : (if t444 < 0 then (some true) else ((xG.f k a0_0 a0_1 a0_2 a0_3 l0_4).bind fun bt445 => ((xM.f k bt445.1 bt445.2.1 bt445.2.2.1 bt445.2.2.2.1 bt445.2.2.2.2 a1 a2 a3).bind fun bt452 => ((xG.f k a0_0 a0_1 a0_2 a0_3 l0_4).bind fun bt454 => ((xK.f k bt454.1 bt454.2.1 bt454.2.2.1 bt454.2.2.2.1 bt454.2.2.2.2 a1 a2 a3).bind fun bt462 => (if bt462.1 = bt452.1 then (if bt462.2 = bt452.2 then ((xG.f k a0_0 a0_1 a0_2 a0_3 l0_4).bind fun bt464 => ((xL.f k bt454.1 bt454.2.1 bt454.2.2.1 bt454.2.2.2.1 bt454.2.2.2.2 bt464.1 bt464.2.1 bt464.2.2.1 bt464.2.2.2.1 bt464.2.2.2.2).bind fun t471 => (if t471 = true then (some true) else (none)))) else (none)) else (none))))))) = some r := H
 have A5 := zC.mk A50
 clear A50
 by_cases c6 : t444 < 0
 ·
  rw [if_pos c6] at H
  have c6b0 : decide (t444 < 0) = true := decide_eq_true c6
  clear c6
  obtain rfl := Option.some.inj H
  go_enter Try.func3, Try.ntmps3
  go_wp2_with (first | ((with_reducible refine zP (N := 4) rfl ?_); refine zN ?hg (N := 4) ?hd (cs := #[.int .i64 a0_0, .int .i64 a0_1, .int .i64 a0_2, .int .i64 a0_3, .slice A0_4 l0_4.length c0_4]) (t := 26) ?hr ?_; (case hd => rfl); (case hg => rfl); (case hr => first | (go_simp; done) | (go_simp; rfl)); intro gb443 hg w7 hbox hb; have n0_ := zC.mk (zL (by repeat (first | (with_reducible first | exact HB.out | apply zG | apply zA | apply zD) | exact HB.out)) hb); have n1_ := zC.mk (hbox); have n2_ := zC.mk ((by rw [hg]; exact (zM (by repeat (first | (with_reducible first | exact HB.out | apply zG | apply zA | apply zD) | exact HB.out))) : w.heap.size ≤ gb443)); have n3_ := n2_; clear HB; have HB := n0_; have BK443 := n1_; have GW443 := n2_; have GE443 := n3_; clear n0_ n1_ n2_ n3_; clear hb hbox hg; have hcz8_0 : w7.cell? ⟨gb443, 0, none⟩ = some (.int .i64 a0_0) := zB BK443.out 0; have hcz8_1 : w7.cell? ⟨gb443, 1, none⟩ = some (.int .i64 a0_1) := zB BK443.out 1; have hcz8_2 : w7.cell? ⟨gb443, 2, none⟩ = some (.int .i64 a0_2) := zB BK443.out 2; have hcz8_3 : w7.cell? ⟨gb443, 3, none⟩ = some (.int .i64 a0_3) := zB BK443.out 3; have hcz8_4 : w7.cell? ⟨gb443, 4, none⟩ = some (.slice A0_4 l0_4.length c0_4) := zB BK443.out 4; have hfz8_0 := zJ BK443.out 0; have hfz8_1 := zJ BK443.out 1; have hfz8_2 := zJ BK443.out 2; have hfz8_3 := zJ BK443.out 3; have hfz8_4 := zJ BK443.out 4) | ((with_reducible refine zQ (f := 12) rfl ?_); refine zX (some 17) rfl rfl Try.func12 (by kernel_rfl) rfl #[.agg #[.int .i64 a0_0, .int .i64 a0_1, .int .i64 a0_2, .int .i64 a0_3, .slice A0_4 l0_4.length c0_4], .int .i64 1048576] rfl (by (try simp only [List.map_toArray, List.map_cons, List.map_nil]); first | done | rfl) ?_; (with_reducible refine (wL.calls a0_0 a0_1 a0_2 a0_3 _ _ l0_4 1048576 t444 _ ?side1 ?side2 A5.out).mono ?_); (case side1 => repeat (first | exact (Kd.C_below HR0_4.out HB.out) | (with_reducible refine Kd.C_alloc ?_ _) | (with_reducible refine Kd.C_drewN ?_ _) | (with_reducible refine Kd.C_drew ?_))); (case side2 => exact HC0_4.out); rintro e w9 ⟨rfl, hb⟩; refine ⟨_, rfl, ?_⟩; have n0_ := zC.mk (zK (g := gb443) (o := .cells #[.int .i64 a0_0, .int .i64 a0_1, .int .i64 a0_2, .int .i64 a0_3, .slice A0_4 l0_4.length c0_4] 26 (0, 0)) (by (with_reducible repeat (first | refine zF ?_ _ | refine zI ?_ | refine zE ?_ _)); exact BK443.out) hb); have n1_ := zC.mk (zL (by repeat (first | (with_reducible first | exact HB.out | apply zG | apply zA | apply zD | refine zH ?_ GE443.out) | exact HB.out)) hb); clear BK443; clear HB; have BK443 := n0_; have HB := n1_; clear n0_ n1_; (try clear hb)))
  go_ret
  exact ⟨by first | rfl | (simp [*, errW_none, errW_some] <;> rfl), by repeat (first | (with_reducible first | exact HB.out | apply zG | apply zA | apply zD | refine zH ?_ GE443.out) | exact HB.out)⟩
 ·
  rw [if_neg c6] at H
  have c6b0 : decide (t444 < 0) = false := decide_eq_false c6
  clear c6
  replace H := Option.bind_eq_some_iff.mp H
  obtain ⟨⟨t445, t446, t447, t448, t449⟩, A100, H⟩ := H
  replace H : ((xM.f k t445 t446 t447 t448 t449 a1 a2 a3).bind fun bt452 => ((xG.f k a0_0 a0_1 a0_2 a0_3 l0_4).bind fun bt454 => ((xK.f k bt454.1 bt454.2.1 bt454.2.2.1 bt454.2.2.2.1 bt454.2.2.2.2 a1 a2 a3).bind fun bt462 => (if bt462.1 = bt452.1 then (if bt462.2 = bt452.2 then ((xG.f k a0_0 a0_1 a0_2 a0_3 l0_4).bind fun bt464 => ((xL.f k bt454.1 bt454.2.1 bt454.2.2.1 bt454.2.2.2.1 bt454.2.2.2.2 bt464.1 bt464.2.1 bt464.2.2.1 bt464.2.2.2.1 bt464.2.2.2.2).bind fun t471 => (if t471 = true then (some true) else (none)))) else (none)) else (none))))) = some r := H
  have A10 := zC.mk A100
  clear A100
  replace H := Option.bind_eq_some_iff.mp H
  obtain ⟨⟨t452, t453⟩, A110, H⟩ := H
  replace H : ((xG.f k a0_0 a0_1 a0_2 a0_3 l0_4).bind fun bt454 => ((xK.f k bt454.1 bt454.2.1 bt454.2.2.1 bt454.2.2.2.1 bt454.2.2.2.2 a1 a2 a3).bind fun bt462 => (if bt462.1 = t452 then (if bt462.2 = t453 then ((xG.f k a0_0 a0_1 a0_2 a0_3 l0_4).bind fun bt464 => ((xL.f k bt454.1 bt454.2.1 bt454.2.2.1 bt454.2.2.2.1 bt454.2.2.2.2 bt464.1 bt464.2.1 bt464.2.2.1 bt464.2.2.2.1 bt464.2.2.2.2).bind fun t471 => (if t471 = true then (some true) else (none)))) else (none)) else (none)))) = some r := H
  have A11 := zC.mk A110
  clear A110
  replace H := Option.bind_eq_some_iff.mp H
  obtain ⟨⟨t454, t455, t456, t457, t458⟩, A120, H⟩ := H
  replace H : ((xK.f k t454 t455 t456 t457 t458 a1 a2 a3).bind fun bt462 => (if bt462.1 = t452 then (if bt462.2 = t453 then ((xG.f k a0_0 a0_1 a0_2 a0_3 l0_4).bind fun bt464 => ((xL.f k t454 t455 t456 t457 t458 bt464.1 bt464.2.1 bt464.2.2.1 bt464.2.2.2.1 bt464.2.2.2.2).bind fun t471 => (if t471 = true then (some true) else (none)))) else (none)) else (none))) = some r := H
  have A12 := zC.mk A120
  clear A120
  replace H := Option.bind_eq_some_iff.mp H
  obtain ⟨⟨t462, t463⟩, A130, H⟩ := H
  replace H : (if t462 = t452 then (if t463 = t453 then ((xG.f k a0_0 a0_1 a0_2 a0_3 l0_4).bind fun bt464 => ((xL.f k t454 t455 t456 t457 t458 bt464.1 bt464.2.1 bt464.2.2.1 bt464.2.2.2.1 bt464.2.2.2.2).bind fun t471 => (if t471 = true then (some true) else (none)))) else (none)) else (none)) = some r := H
  have A13 := zC.mk A130
  clear A130
  by_cases c14 : t462 = t452
  ·
   rw [if_pos c14] at H
   have c14b0 : (t462 == t452) = true := beq_iff_eq.mpr c14
   have c14b1 : (t462 != t452) = false := bne_eq_false_iff_eq.mpr c14
   clear c14
   by_cases c15 : t463 = t453
   ·
    rw [if_pos c15] at H
    have c15b0 : (t463 == t453) = true := beq_iff_eq.mpr c15
    have c15b1 : (t463 != t453) = false := bne_eq_false_iff_eq.mpr c15
    clear c15
    replace H := Option.bind_eq_some_iff.mp H
    obtain ⟨⟨t464, t465, t466, t467, t468⟩, A160, H⟩ := H
    replace H : ((xL.f k t454 t455 t456 t457 t458 t464 t465 t466 t467 t468).bind fun t471 => (if t471 = true then (some true) else (none))) = some r := H
    have A16 := zC.mk A160
    clear A160
    replace H := Option.bind_eq_some_iff.mp H
    obtain ⟨t471, A170, H⟩ := H
    replace H : (if t471 = true then (some true) else (none)) = some r := H
    have A17 := zC.mk A170
    clear A170
    by_cases c18 : t471 = true
    ·
     subst c18
     have H1 : (some true) = some r := by rw [if_pos rfl] at H; exact H
     clear H
     have H := H1
     clear H1
     obtain rfl := Option.some.inj H
     go_enter Try.func3, Try.ntmps3
     try go_wp2_with (first | ((with_reducible refine zP (N := 4) rfl ?_); refine zN ?hg (N := 4) ?hd (cs := #[.int .i64 a0_0, .int .i64 a0_1, .int .i64 a0_2, .int .i64 a0_3, .slice A0_4 l0_4.length c0_4]) (t := 26) ?hr ?_; (case hd => rfl); (case hg => rfl); (case hr => first | (go_simp; done) | (go_simp; rfl)); intro gb443 hg w19 hbox hb; have n0_ := zC.mk (zL (by repeat (first | (with_reducible first | exact HB.out | apply zG | apply zA | apply zD) | exact HB.out)) hb); have n1_ := zC.mk (hbox); have n2_ := zC.mk ((by rw [hg]; exact (zM (by repeat (first | (with_reducible first | exact HB.out | apply zG | apply zA | apply zD) | exact HB.out))) : w.heap.size ≤ gb443)); have n3_ := n2_; clear HB; have HB := n0_; have BK443 := n1_; have GW443 := n2_; have GE443 := n3_; clear n0_ n1_ n2_ n3_; clear hb hbox hg; have hcz20_0 : w19.cell? ⟨gb443, 0, none⟩ = some (.int .i64 a0_0) := zB BK443.out 0; have hcz20_1 : w19.cell? ⟨gb443, 1, none⟩ = some (.int .i64 a0_1) := zB BK443.out 1; have hcz20_2 : w19.cell? ⟨gb443, 2, none⟩ = some (.int .i64 a0_2) := zB BK443.out 2; have hcz20_3 : w19.cell? ⟨gb443, 3, none⟩ = some (.int .i64 a0_3) := zB BK443.out 3; have hcz20_4 : w19.cell? ⟨gb443, 4, none⟩ = some (.slice A0_4 l0_4.length c0_4) := zB BK443.out 4; have hfz20_0 := zJ BK443.out 0; have hfz20_1 := zJ BK443.out 1; have hfz20_2 := zJ BK443.out 2; have hfz20_3 := zJ BK443.out 3; have hfz20_4 := zJ BK443.out 4) | ((with_reducible refine zQ (f := 12) rfl ?_); refine zX (some 17) rfl rfl Try.func12 (by kernel_rfl) rfl #[.agg #[.int .i64 a0_0, .int .i64 a0_1, .int .i64 a0_2, .int .i64 a0_3, .slice A0_4 l0_4.length c0_4], .int .i64 1048576] rfl (by (try simp only [List.map_toArray, List.map_cons, List.map_nil]); first | done | rfl) ?_; (with_reducible refine (wL.calls a0_0 a0_1 a0_2 a0_3 _ _ l0_4 1048576 t444 _ ?side1 ?side2 A5.out).mono ?_); (case side1 => repeat (first | exact (Kd.C_below HR0_4.out HB.out) | (with_reducible refine Kd.C_alloc ?_ _) | (with_reducible refine Kd.C_drewN ?_ _) | (with_reducible refine Kd.C_drew ?_))); (case side2 => exact HC0_4.out); rintro e w21 ⟨rfl, hb⟩; refine ⟨_, rfl, ?_⟩; have n0_ := zC.mk (zK (g := gb443) (o := .cells #[.int .i64 a0_0, .int .i64 a0_1, .int .i64 a0_2, .int .i64 a0_3, .slice A0_4 l0_4.length c0_4] 26 (0, 0)) (by (with_reducible repeat (first | refine zF ?_ _ | refine zI ?_ | refine zE ?_ _)); exact BK443.out) hb); have n1_ := zC.mk (zL (by repeat (first | (with_reducible first | exact HB.out | apply zG | apply zA | apply zD | refine zH ?_ GE443.out) | exact HB.out)) hb); clear BK443; clear HB; have BK443 := n0_; have HB := n1_; clear n0_ n1_; (try clear hb); have hcz22_0 : w21.cell? ⟨gb443, 0, none⟩ = some (.int .i64 a0_0) := zB BK443.out 0; have hcz22_1 : w21.cell? ⟨gb443, 1, none⟩ = some (.int .i64 a0_1) := zB BK443.out 1; have hcz22_2 : w21.cell? ⟨gb443, 2, none⟩ = some (.int .i64 a0_2) := zB BK443.out 2; have hcz22_3 : w21.cell? ⟨gb443, 3, none⟩ = some (.int .i64 a0_3) := zB BK443.out 3; have hcz22_4 : w21.cell? ⟨gb443, 4, none⟩ = some (.slice A0_4 l0_4.length c0_4) := zB BK443.out 4; have hfz22_0 := zJ BK443.out 0; have hfz22_1 := zJ BK443.out 1; have hfz22_2 := zJ BK443.out 2; have hfz22_3 := zJ BK443.out 3; have hfz22_4 := zJ BK443.out 4) | ((with_reducible refine zQ (f := 14) rfl ?_); refine zX (some 22) rfl rfl Try.func14 (by kernel_rfl) rfl #[.agg #[.int .i64 a0_0, .int .i64 a0_1, .int .i64 a0_2, .int .i64 a0_3, .slice A0_4 l0_4.length c0_4]] rfl (by (try simp only [List.map_toArray, List.map_cons, List.map_nil]); first | done | rfl) ?_; (with_reducible refine (xG.calls k a0_0 a0_1 a0_2 a0_3 _ _ l0_4 t445 t446 t447 t448 t449 _ ?side1 ?side2 A10.out).mono ?_); (case side1 => repeat (first | exact (Kd.C_below HR0_4.out HB.out) | (with_reducible refine Kd.C_alloc ?_ _) | (with_reducible refine Kd.C_drewN ?_ _) | (with_reducible refine Kd.C_drew ?_))); (case side2 => exact HC0_4.out); rintro e w23 ⟨v450, rfl, ho0, hb⟩; refine ⟨_, rfl, ?_⟩; have n0_ := zC.mk (Kd.R_lower ho0 (zM (by repeat (first | (with_reducible first | exact HB.out | apply zG | apply zA | apply zD | refine zH ?_ GE443.out) | exact HB.out)))); have n1_ := zC.mk (zK (g := gb443) (o := .cells #[.int .i64 a0_0, .int .i64 a0_1, .int .i64 a0_2, .int .i64 a0_3, .slice A0_4 l0_4.length c0_4] 26 (0, 0)) (by (with_reducible repeat (first | refine zF ?_ _ | refine zI ?_ | refine zE ?_ _)); exact BK443.out) hb); have n2_ := zC.mk (zL (by repeat (first | (with_reducible first | exact HB.out | apply zG | apply zA | apply zD | refine zH ?_ GE443.out) | exact HB.out)) hb); clear BK443; clear HB; have HO451 := n0_; have BK443 := n1_; have HB := n2_; clear n0_ n1_ n2_; (try clear hb); (try clear ho0); obtain ⟨Ao24, co24, eo24⟩ := Kd.R_slice HO451.out; subst eo24) | ((with_reducible refine zQ (f := 13) rfl ?_); refine zX (some 26) rfl rfl Try.func13 (by kernel_rfl) rfl #[.agg #[.int .i64 t445, .int .i64 t446, .int .i64 t447, .int .i64 t448, .slice Ao24 t449.length co24], .int .i64 a1, .int .i64 a2, .int .i64 a3] rfl (by (try simp only [List.map_toArray, List.map_cons, List.map_nil]); first | done | rfl) ?_; (with_reducible refine (xM.calls k t445 t446 t447 t448 _ _ t449 a1 a2 a3 t452 t453 _ ?side1 ?side2 A11.out).mono ?_); (case side1 => repeat (first | exact (Kd.R_reads' HO451.out).2.2 | (with_reducible refine Kd.C_alloc ?_ _) | (with_reducible refine Kd.C_drewN ?_ _) | (with_reducible refine Kd.C_drew ?_))); (case side2 => exact (Kd.R_reads' HO451.out).2.1); rintro e w25 ⟨rfl, hb⟩; refine ⟨_, rfl, ?_⟩; have n0_ := zC.mk (Kd.R_below (by (with_reducible repeat (first | apply Kd.R_alloc | apply Kd.R_drewN | apply Kd.R_drew)); exact HO451.out) hb); have n1_ := zC.mk (zK (g := gb443) (o := .cells #[.int .i64 a0_0, .int .i64 a0_1, .int .i64 a0_2, .int .i64 a0_3, .slice A0_4 l0_4.length c0_4] 26 (0, 0)) (by (with_reducible repeat (first | refine zF ?_ _ | refine zI ?_ | refine zE ?_ _)); exact BK443.out) hb); have n2_ := zC.mk (zL (by repeat (first | (with_reducible first | exact HB.out | apply zG | apply zA | apply zD | refine zH ?_ GE443.out) | exact HB.out)) hb); clear HO451; clear BK443; clear HB; have HO451 := n0_; have BK443 := n1_; have HB := n2_; clear n0_ n1_ n2_; (try clear hb); have hcz26_0 : w25.cell? ⟨gb443, 0, none⟩ = some (.int .i64 a0_0) := zB BK443.out 0; have hcz26_1 : w25.cell? ⟨gb443, 1, none⟩ = some (.int .i64 a0_1) := zB BK443.out 1; have hcz26_2 : w25.cell? ⟨gb443, 2, none⟩ = some (.int .i64 a0_2) := zB BK443.out 2; have hcz26_3 : w25.cell? ⟨gb443, 3, none⟩ = some (.int .i64 a0_3) := zB BK443.out 3; have hcz26_4 : w25.cell? ⟨gb443, 4, none⟩ = some (.slice A0_4 l0_4.length c0_4) := zB BK443.out 4; have hfz26_0 := zJ BK443.out 0; have hfz26_1 := zJ BK443.out 1; have hfz26_2 := zJ BK443.out 2; have hfz26_3 := zJ BK443.out 3; have hfz26_4 := zJ BK443.out 4) | ((with_reducible refine zQ (f := 14) rfl ?_); refine zX (some 30) rfl rfl Try.func14 (by kernel_rfl) rfl #[.agg #[.int .i64 a0_0, .int .i64 a0_1, .int .i64 a0_2, .int .i64 a0_3, .slice A0_4 l0_4.length c0_4]] rfl (by (try simp only [List.map_toArray, List.map_cons, List.map_nil]); first | done | rfl) ?_; (with_reducible refine (xG.calls k a0_0 a0_1 a0_2 a0_3 _ _ l0_4 t454 t455 t456 t457 t458 _ ?side1 ?side2 A12.out).mono ?_); (case side1 => repeat (first | exact (Kd.C_below HR0_4.out HB.out) | (with_reducible refine Kd.C_alloc ?_ _) | (with_reducible refine Kd.C_drewN ?_ _) | (with_reducible refine Kd.C_drew ?_))); (case side2 => exact HC0_4.out); rintro e w27 ⟨v459, rfl, ho0, hb⟩; refine ⟨_, rfl, ?_⟩; have n0_ := zC.mk (Kd.R_elder' (by (with_reducible repeat (first | apply Kd.R_alloc | apply Kd.R_drewN | apply Kd.R_drew)); exact HO451.out) (Kd.R_base ho0) hb); have n1_ := zC.mk (Kd.R_lower (Kd.R_new' ho0 (Kd.R_lt (by (with_reducible repeat (first | apply Kd.R_alloc | apply Kd.R_drewN | apply Kd.R_drew)); exact HO451.out))) (zM (by repeat (first | (with_reducible first | exact HB.out | apply zG | apply zA | apply zD | refine zH ?_ GE443.out) | exact HB.out)))); have n2_ := zC.mk (zK (g := gb443) (o := .cells #[.int .i64 a0_0, .int .i64 a0_1, .int .i64 a0_2, .int .i64 a0_3, .slice A0_4 l0_4.length c0_4] 26 (0, 0)) (by (with_reducible repeat (first | refine zF ?_ _ | refine zI ?_ | refine zE ?_ _)); exact BK443.out) hb); have n3_ := zC.mk (zL (by repeat (first | (with_reducible first | exact HB.out | apply zG | apply zA | apply zD | refine zH ?_ GE443.out) | exact HB.out)) hb); clear HO451; clear BK443; clear HB; have HO451 := n0_; have HO460 := n1_; have BK443 := n2_; have HB := n3_; clear n0_ n1_ n2_ n3_; (try clear hb); (try clear ho0)) | ((with_reducible refine zP (N := 12) rfl ?_); refine zN ?hg (N := 12) ?hd (cs := #[.int .i64 0, .int .i64 0, .int .i64 0, .int .i64 0, .slice none 0 0]) (t := 32) ?hr ?_; (case hd => rfl); (case hg => rfl); (case hr => first | (go_simp; done) | (go_simp; rfl)); intro gb461 hg w28 hbox hb; have n0_ := zC.mk (Kd.R_below (by (with_reducible repeat (first | apply Kd.R_alloc | apply Kd.R_drewN | apply Kd.R_drew)); exact HO451.out) hb); have n1_ := zC.mk (Kd.R_below (by (with_reducible repeat (first | apply Kd.R_alloc | apply Kd.R_drewN | apply Kd.R_drew)); exact HO460.out) hb); have n2_ := zC.mk (zK (g := gb443) (o := .cells #[.int .i64 a0_0, .int .i64 a0_1, .int .i64 a0_2, .int .i64 a0_3, .slice A0_4 l0_4.length c0_4] 26 (0, 0)) (by (with_reducible repeat (first | refine zF ?_ _ | refine zI ?_ | refine zE ?_ _)); exact BK443.out) hb); have n3_ := zC.mk (zL (by repeat (first | (with_reducible first | exact HB.out | apply zG | apply zA | apply zD | refine zH ?_ GE443.out) | exact HB.out)) hb); have n4_ := zC.mk (hbox); have n5_ := zC.mk ((by rw [hg]; exact (zM (by repeat (first | (with_reducible first | exact HB.out | apply zG | apply zA | apply zD | refine zH ?_ GE443.out) | exact HB.out))) : w.heap.size ≤ gb461)); have n6_ := n5_; have n7_ := zC.mk ((by rw [hg]; exact Nat.ne_of_lt (zV (by (with_reducible repeat (first | refine zF ?_ _ | refine zI ?_ | refine zE ?_ _)); exact BK443.out)) : gb443 ≠ gb461)); have n8_ := zC.mk n7_.out.symm; clear HO451; clear HO460; clear BK443; clear HB; have HO451 := n0_; have HO460 := n1_; have BK443 := n2_; have HB := n3_; have BK461 := n4_; have GW461 := n5_; have GE461 := n6_; have NB443_461 := n7_; have NB461_443 := n8_; clear n0_ n1_ n2_ n3_ n4_ n5_ n6_ n7_ n8_; clear hb hbox hg; have hnb29 := NB461_443.out; have hnc29 := NB443_461.out; have hcz30_0 : w28.cell? ⟨gb461, 0, none⟩ = some (.int .i64 0) := zB BK461.out 0; have hcz30_1 : w28.cell? ⟨gb461, 1, none⟩ = some (.int .i64 0) := zB BK461.out 1; have hcz30_2 : w28.cell? ⟨gb461, 2, none⟩ = some (.int .i64 0) := zB BK461.out 2; have hcz30_3 : w28.cell? ⟨gb461, 3, none⟩ = some (.int .i64 0) := zB BK461.out 3; have hcz30_4 : w28.cell? ⟨gb461, 4, none⟩ = some (.slice none 0 0) := zB BK461.out 4; have hfz30_0 := zJ BK461.out 0; have hfz30_1 := zJ BK461.out 1; have hfz30_2 := zJ BK461.out 2; have hfz30_3 := zJ BK461.out 3; have hfz30_4 := zJ BK461.out 4; obtain ⟨Ao31, co31, eo31⟩ := Kd.R_slice HO460.out; subst eo31) | ((with_reducible refine zQ (f := 15) rfl ?_); refine zX (some 36) rfl rfl Try.func15 (by kernel_rfl) rfl #[.agg #[.int .i64 t454, .int .i64 t455, .int .i64 t456, .int .i64 t457, .slice Ao31 t458.length co31], .int .i64 a1, .int .i64 a2, .int .i64 a3] rfl (by (try simp only [List.map_toArray, List.map_cons, List.map_nil]); first | done | rfl) ?_; (with_reducible refine (xK.calls k t454 t455 t456 t457 _ _ t458 a1 a2 a3 t462 t463 _ ?side1 ?side2 A13.out).mono ?_); (case side1 => refine (Kd.R_reads' (e := 2) (base := w.heap.size) (ok := fun k_ => (True ∧ some k_ ≠ (.slice Ao24 t449.length co24 : Value).ownBlock)) (n := t458.length) (c := co31) ?_).2.2; exact (by (with_reducible repeat (first | apply Kd.R_alloc | apply Kd.R_drewN | apply Kd.R_drew)); exact (Kd.R_mono (Kd.R_far (p := ⟨gb461, 4, none⟩) (Kd.R_far (p := ⟨gb461, 3, none⟩) (Kd.R_far (p := ⟨gb461, 2, none⟩) (Kd.R_far (p := ⟨gb461, 1, none⟩) (Kd.R_far (p := ⟨gb461, 0, none⟩) (Kd.R_types HO460.out BK461.out (by decide)) (fun _ hk => hk.2) (.int .i64 t454)) (fun _ hk => hk.2) (.int .i64 t455)) (fun _ hk => hk.2) (.int .i64 t456)) (fun _ hk => hk.2) (.int .i64 t457)) (fun _ hk => hk.2) (.slice Ao31 t458.length co31)) (fun _ h_ => h_.1)))); (case side2 => exact (Kd.R_reads' HO460.out).2.1); rintro e w32 ⟨rfl, hb⟩; refine ⟨_, rfl, ?_⟩; have n0_ := zC.mk (Kd.R_below (by (with_reducible repeat (first | apply Kd.R_alloc | apply Kd.R_drewN | apply Kd.R_drew)); exact (Kd.R_mono (Kd.R_far (p := ⟨gb461, 4, none⟩) (Kd.R_far (p := ⟨gb461, 3, none⟩) (Kd.R_far (p := ⟨gb461, 2, none⟩) (Kd.R_far (p := ⟨gb461, 1, none⟩) (Kd.R_far (p := ⟨gb461, 0, none⟩) (Kd.R_types HO451.out BK461.out (by decide)) (fun _ hk => hk.2) (.int .i64 t454)) (fun _ hk => hk.2) (.int .i64 t455)) (fun _ hk => hk.2) (.int .i64 t456)) (fun _ hk => hk.2) (.int .i64 t457)) (fun _ hk => hk.2) (.slice Ao31 t458.length co31)) (fun _ h_ => h_.1))) hb); have n1_ := zC.mk (Kd.R_below (by (with_reducible repeat (first | apply Kd.R_alloc | apply Kd.R_drewN | apply Kd.R_drew)); exact (Kd.R_mono (Kd.R_far (p := ⟨gb461, 4, none⟩) (Kd.R_far (p := ⟨gb461, 3, none⟩) (Kd.R_far (p := ⟨gb461, 2, none⟩) (Kd.R_far (p := ⟨gb461, 1, none⟩) (Kd.R_far (p := ⟨gb461, 0, none⟩) (Kd.R_types HO460.out BK461.out (by decide)) (fun _ hk => hk.2) (.int .i64 t454)) (fun _ hk => hk.2) (.int .i64 t455)) (fun _ hk => hk.2) (.int .i64 t456)) (fun _ hk => hk.2) (.int .i64 t457)) (fun _ hk => hk.2) (.slice Ao31 t458.length co31)) (fun _ h_ => h_.1))) hb); have n2_ := zC.mk (zK (g := gb443) (o := .cells #[.int .i64 a0_0, .int .i64 a0_1, .int .i64 a0_2, .int .i64 a0_3, .slice A0_4 l0_4.length c0_4] 26 (0, 0)) (by (with_reducible repeat (first | refine zF ?_ _ | refine zI ?_ | refine zE ?_ _)); refine zU ?_ NB443_461.out _; (with_reducible repeat (first | refine zF ?_ _ | refine zI ?_ | refine zE ?_ _)); refine zU ?_ NB443_461.out _; (with_reducible repeat (first | refine zF ?_ _ | refine zI ?_ | refine zE ?_ _)); refine zU ?_ NB443_461.out _; (with_reducible repeat (first | refine zF ?_ _ | refine zI ?_ | refine zE ?_ _)); refine zU ?_ NB443_461.out _; (with_reducible repeat (first | refine zF ?_ _ | refine zI ?_ | refine zE ?_ _)); refine zU ?_ NB443_461.out _; (with_reducible repeat (first | refine zF ?_ _ | refine zI ?_ | refine zE ?_ _)); exact BK443.out) hb); have n3_ := zC.mk (zK (g := gb461) (o := .cells #[.int .i64 t454, .int .i64 t455, .int .i64 t456, .int .i64 t457, .slice Ao31 t458.length co31] 32 (0, 0)) (by (with_reducible repeat (first | refine zF ?_ _ | refine zI ?_ | refine zE ?_ _)); refine zS (cs := #[.int .i64 t454, .int .i64 t455, .int .i64 t456, .int .i64 t457, .slice none 0 0]) ?_ 4 _ rfl; (with_reducible repeat (first | refine zF ?_ _ | refine zI ?_ | refine zE ?_ _)); refine zS (cs := #[.int .i64 t454, .int .i64 t455, .int .i64 t456, .int .i64 0, .slice none 0 0]) ?_ 3 _ rfl; (with_reducible repeat (first | refine zF ?_ _ | refine zI ?_ | refine zE ?_ _)); refine zS (cs := #[.int .i64 t454, .int .i64 t455, .int .i64 0, .int .i64 0, .slice none 0 0]) ?_ 2 _ rfl; (with_reducible repeat (first | refine zF ?_ _ | refine zI ?_ | refine zE ?_ _)); refine zS (cs := #[.int .i64 t454, .int .i64 0, .int .i64 0, .int .i64 0, .slice none 0 0]) ?_ 1 _ rfl; (with_reducible repeat (first | refine zF ?_ _ | refine zI ?_ | refine zE ?_ _)); refine zS (cs := #[.int .i64 0, .int .i64 0, .int .i64 0, .int .i64 0, .slice none 0 0]) ?_ 0 _ rfl; (with_reducible repeat (first | refine zF ?_ _ | refine zI ?_ | refine zE ?_ _)); exact BK461.out) hb); have n4_ := zC.mk (zL (by repeat (first | (with_reducible first | exact HB.out | apply zG | apply zA | apply zD | refine zH ?_ GE443.out | refine zH ?_ GE461.out) | exact HB.out)) hb); clear HO451; clear HO460; clear BK443; clear BK461; clear HB; have HO451 := n0_; have HO460 := n1_; have BK443 := n2_; have BK461 := n3_; have HB := n4_; clear n0_ n1_ n2_ n3_ n4_; (try clear hb)))
     have n0_ := zC.mk (Kd.R_drew HO451.out)
     have n1_ := zC.mk (Kd.R_drew HO460.out)
     have n2_ := zC.mk (zI BK443.out)
     have n3_ := zC.mk (zI BK461.out)
     have n4_ := zC.mk (zD HB.out)
     clear HO451
     clear HO460
     clear BK443
     clear BK461
     clear HB
     have HO451 := n0_
     have HO460 := n1_
     have BK443 := n2_
     have BK461 := n3_
     have HB := n4_
     clear n0_ n1_ n2_ n3_ n4_
     refine start_ (n := 5) (S := fun w' => w'.cell? ⟨gb461, 0, none⟩ = some (.int .i64 t454) ∧ w'.cell? ⟨gb461, 1, none⟩ = some (.int .i64 t455) ∧ w'.cell? ⟨gb461, 2, none⟩ = some (.int .i64 t456) ∧ w'.cell? ⟨gb461, 3, none⟩ = some (.int .i64 t457) ∧ w'.cell? ⟨gb461, 4, none⟩ = some (.slice Ao31 t458.length co31) ∧ w'.cell? ⟨gb443, 0, none⟩ = some (.int .i64 a0_0) ∧ w'.cell? ⟨gb443, 1, none⟩ = some (.int .i64 a0_1) ∧ w'.cell? ⟨gb443, 2, none⟩ = some (.int .i64 a0_2) ∧ w'.cell? ⟨gb443, 3, none⟩ = some (.int .i64 a0_3) ∧ w'.cell? ⟨gb443, 4, none⟩ = some (.slice A0_4 l0_4.length c0_4)) (ds := []) #[false, false, false, false, false] (by kernel_rfl) rfl rfl ⟨zB BK461.out 0, zB BK461.out 1, zB BK461.out 2, zB BK461.out 3, zB BK461.out 4, zB BK443.out 0, zB BK443.out 1, zB BK443.out 2, zB BK443.out 3, zB BK443.out 4⟩ (fun hHeld => ?_)
     generalize w32.drew = w33 at HO451 HO460 BK443 BK461 HB hHeld ⊢
     refine yC (i := 0) (N := some 47) (v := ?_) (a' := ?_) #[true, false, false, false, false] rfl rfl (by kernel_rfl) (fun _ _ _ h => h) (Or.inl ⟨by rfl, ?_⟩) hHeld ?_ ?_
     rotate_left
     ·
      rintro w' ⟨s0, s1, s2, s3, s4, s5, s6, s7, s8, s9⟩
      go_simp
      with_reducible rfl
     rotate_left
     ·
      go_simp
      rfl
     refine yC (i := 1) (N := some 48) (v := ?_) (a' := ?_) #[true, true, false, false, false] rfl rfl (by kernel_rfl) (fun _ _ _ h => h) (Or.inl ⟨by rfl, ?_⟩) hHeld ?_ ?_
     rotate_left
     ·
      rintro w' ⟨s0, s1, s2, s3, s4, s5, s6, s7, s8, s9⟩
      go_simp
      with_reducible rfl
     rotate_left
     ·
      go_simp
      rfl
     refine one_ (i := 2) (N := some 49) #[true, true, true, false, false] rfl rfl (by kernel_rfl) (by decide) (fun K hK => ?_)
     refine yD Try.func14 (by kernel_rfl) rfl #[.agg #[.int .i64 a0_0, .int .i64 a0_1, .int .i64 a0_2, .int .i64 a0_3, .slice A0_4 l0_4.length c0_4]] (by rfl) rfl rfl (by (try simp only [List.map_toArray, List.map_cons, List.map_nil]); first | done | rfl) ?_
     with_reducible refine (xG.calls k a0_0 a0_1 a0_2 a0_3 _ _ l0_4 t464 t465 t466 t467 t468 _ ?side1 ?side2 A16.out).mono ?_
     (case side1 => repeat (first | exact (Kd.C_below HR0_4.out HB.out) | (with_reducible refine Kd.C_alloc ?_ _) | (with_reducible refine Kd.C_drewN ?_ _) | (with_reducible refine Kd.C_drew ?_)))
     (case side2 => exact HC0_4.out)
     rintro e w34 ⟨v469, rfl, ho0, hb⟩
     refine ⟨_, rfl, ?_⟩
     have n0_ := zC.mk (Kd.R_elder' (by (with_reducible repeat (first | apply Kd.R_alloc | apply Kd.R_drewN | apply Kd.R_drew)); exact HO451.out) (Kd.R_base ho0) hb)
     have n1_ := zC.mk (Kd.R_elder' (by (with_reducible repeat (first | apply Kd.R_alloc | apply Kd.R_drewN | apply Kd.R_drew)); exact HO460.out) (Kd.R_base ho0) hb)
     have n2_ := zC.mk (Kd.R_lower (Kd.R_new' (Kd.R_new' ho0 (Kd.R_lt (by (with_reducible repeat (first | apply Kd.R_alloc | apply Kd.R_drewN | apply Kd.R_drew)); exact HO451.out))) (Kd.R_lt (by (with_reducible repeat (first | apply Kd.R_alloc | apply Kd.R_drewN | apply Kd.R_drew)); exact HO460.out))) (zM (by repeat (first | (with_reducible first | exact HB.out | apply zG | apply zA | apply zD | refine zH ?_ GE443.out | refine zH ?_ GE461.out) | exact HB.out))))
     have n3_ := zC.mk (zK (g := gb443) (o := .cells #[.int .i64 a0_0, .int .i64 a0_1, .int .i64 a0_2, .int .i64 a0_3, .slice A0_4 l0_4.length c0_4] 26 (0, 0)) (by (with_reducible repeat (first | refine zF ?_ _ | refine zI ?_ | refine zE ?_ _)); exact BK443.out) hb)
     have n4_ := zC.mk (zK (g := gb461) (o := .cells #[.int .i64 t454, .int .i64 t455, .int .i64 t456, .int .i64 t457, .slice Ao31 t458.length co31] 32 (0, 0)) (by (with_reducible repeat (first | refine zF ?_ _ | refine zI ?_ | refine zE ?_ _)); exact BK461.out) hb)
     have n5_ := zC.mk (zL (by repeat (first | (with_reducible first | exact HB.out | apply zG | apply zA | apply zD | refine zH ?_ GE443.out | refine zH ?_ GE461.out) | exact HB.out)) hb)
     clear HO451
     clear HO460
     clear BK443
     clear BK461
     clear HB
     have HO451 := n0_
     have HO460 := n1_
     have HO470 := n2_
     have BK443 := n3_
     have BK461 := n4_
     have HB := n5_
     clear n0_ n1_ n2_ n3_ n4_ n5_
     (try clear hb)
     (try clear ho0)
     obtain ⟨Ao35, co35, eo35⟩ := Kd.R_slice HO470.out
     (first | subst eo35 | (injection eo35 with f1_ f2_ f3_; have f4_ := f1_.symm; have f5_ := f3_.symm; clear f1_ f2_ f3_; subst f4_; subst f5_))
     refine hK.out _ _ ⟨zB BK461.out 0, zB BK461.out 1, zB BK461.out 2, zB BK461.out 3, zB BK461.out 4, zB BK443.out 0, zB BK443.out 1, zB BK443.out 2, zB BK443.out 3, zB BK443.out 4⟩ (fun hHeld => ?_)
     clear hK K
     refine yA (a' := ?_) ?_ ?_
     rotate_left
     ·
      show Act.put _ (some 49) _ = _
      go_simp
      rfl
     refine one_ (i := 3) (N := some 50) #[true, true, true, true, false] rfl rfl (by kernel_rfl) (by decide) (fun K hK => ?_)
     refine yD Try.func16 (by kernel_rfl) rfl #[.agg #[.int .i64 t454, .int .i64 t455, .int .i64 t456, .int .i64 t457, .slice Ao31 t458.length co31], .agg #[.int .i64 t464, .int .i64 t465, .int .i64 t466, .int .i64 t467, .slice Ao35 t468.length co35]] (by rfl) rfl rfl (by (try simp only [List.map_toArray, List.map_cons, List.map_nil]); first | done | rfl) ?_
     with_reducible refine (xL.calls k t454 t455 t456 t457 _ _ t458 t464 t465 t466 t467 _ _ t468 true _ ?side1 ?side2 ?side3 ?side4 A17.out).mono ?_
     (case side1 => repeat (first | exact (Kd.R_reads' HO460.out).2.2 | (with_reducible refine Kd.C_alloc ?_ _) | (with_reducible refine Kd.C_drewN ?_ _) | (with_reducible refine Kd.C_drew ?_)))
     (case side2 => exact (Kd.R_reads' HO460.out).2.1)
     (case side3 => repeat (first | exact (Kd.R_reads' HO470.out).2.2 | (with_reducible refine Kd.C_alloc ?_ _) | (with_reducible refine Kd.C_drewN ?_ _) | (with_reducible refine Kd.C_drew ?_)))
     (case side4 => exact (Kd.R_reads' HO470.out).2.1)
     rintro e w36 ⟨rfl, hb⟩
     refine ⟨_, rfl, ?_⟩
     have n0_ := zC.mk (Kd.R_below (by (with_reducible repeat (first | apply Kd.R_alloc | apply Kd.R_drewN | apply Kd.R_drew)); exact HO451.out) hb)
     have n1_ := zC.mk (Kd.R_below (by (with_reducible repeat (first | apply Kd.R_alloc | apply Kd.R_drewN | apply Kd.R_drew)); exact HO460.out) hb)
     have n2_ := zC.mk (Kd.R_below (by (with_reducible repeat (first | apply Kd.R_alloc | apply Kd.R_drewN | apply Kd.R_drew)); exact HO470.out) hb)
     have n3_ := zC.mk (zK (g := gb443) (o := .cells #[.int .i64 a0_0, .int .i64 a0_1, .int .i64 a0_2, .int .i64 a0_3, .slice A0_4 l0_4.length c0_4] 26 (0, 0)) (by (with_reducible repeat (first | refine zF ?_ _ | refine zI ?_ | refine zE ?_ _)); exact BK443.out) hb)
     have n4_ := zC.mk (zK (g := gb461) (o := .cells #[.int .i64 t454, .int .i64 t455, .int .i64 t456, .int .i64 t457, .slice Ao31 t458.length co31] 32 (0, 0)) (by (with_reducible repeat (first | refine zF ?_ _ | refine zI ?_ | refine zE ?_ _)); exact BK461.out) hb)
     have n5_ := zC.mk (zL (by repeat (first | (with_reducible first | exact HB.out | apply zG | apply zA | apply zD | refine zH ?_ GE443.out | refine zH ?_ GE461.out) | exact HB.out)) hb)
     clear HO451
     clear HO460
     clear HO470
     clear BK443
     clear BK461
     clear HB
     have HO451 := n0_
     have HO460 := n1_
     have HO470 := n2_
     have BK443 := n3_
     have BK461 := n4_
     have HB := n5_
     clear n0_ n1_ n2_ n3_ n4_ n5_
     (try clear hb)
     refine hK.out _ _ ⟨zB BK461.out 0, zB BK461.out 1, zB BK461.out 2, zB BK461.out 3, zB BK461.out 4, zB BK443.out 0, zB BK443.out 1, zB BK443.out 2, zB BK443.out 3, zB BK443.out 4⟩ (fun hHeld => ?_)
     clear hK K
     refine yA (a' := ?_) ?_ ?_
     rotate_left
     ·
      show Act.put _ (some 50) _ = _
      go_simp
      rfl
     refine zR (i := 4) (N := some 51) (v := ?_) (a' := ?_) #[true, true, true, true, true] rfl rfl (by kernel_rfl) (fun _ _ _ h => h) (Or.inl ⟨by rfl, ?_⟩) ?_ ?_
     rotate_left
     ·
      intro w'
      go_simp
      with_reducible rfl
     rotate_left
     ·
      go_simp
      rfl
     refine done_ (by kernel_rfl) ?_
     try go_wp2
     go_ret
     exact ⟨by first | rfl | (simp [*, errW_none, errW_some] <;> rfl), by repeat (first | (with_reducible first | exact HB.out | apply zG | apply zA | apply zD | refine zH ?_ GE443.out | refine zH ?_ GE461.out) | exact HB.out)⟩
    ·
     replace c18 := Bool.eq_false_iff.mpr c18
     subst c18
     have H1 : (none) = some r := by rw [if_neg (show ¬ (false = true) by decide)] at H; exact H
     clear H
     have H := H1
     clear H1
     exact absurd H (by simp)
   ·
    rw [if_neg c15] at H
    exact absurd H (by simp)
  ·
   rw [if_neg c14] at H
   exact absurd H (by simp)

end Go.Proofs.Ytioendlbpendpaa.X
