/- Part of the proof of the law FnExactRollLength: each function of the code computes what its plain function says. No condition of its own. -/
import Derived.Test.YtioendlbpendpaaCFnExactRollLengthW0
set_option maxHeartbeats 8000000
set_option maxRecDepth 100000
namespace Go.Proofs.Ytioendlbpendpaa.X
open Go.RowKit Go.Proofs.YtioendlbpendpaaW.PrintWords Go.Proofs.YtioendlbpendpaaW.PrintLast Go.Proofs.YtioendlbpendpaaW.PrintMore
attribute [local go_sem] max2_int min2_int max_two min_two max_three min_three max_four min_four   -- for this text's walks alone
set_option linter.unusedVariables false
set_option linter.unusedSimpArgs false

/-! ### yQ: function 52 -/
theorem yQ.calls (k : Nat) (a0_0 : Int) (a0_1 : Int) (a0_2 : Int) (a0_3 : Int) (A0_4 : Option Addr) (c0_4 : Nat) (l0_4 : List Int) (a1 : Bool) (r1 : Int) (r2 : Int) (r3 : Int) (r4 : Int) (w : World) (hr0_4 : Kd.C (Kd.int .i64) w A0_4 l0_4.length l0_4) (hc0_4 : l0_4.length ≤ c0_4) (h : yQ.f k a0_0 a0_1 a0_2 a0_3 l0_4 a1 = some (r1, r2, r3, r4)) :
  Calls Try.prog 52 #[.agg #[.int .i64 a0_0, .int .i64 a0_1, .int .i64 a0_2, .int .i64 a0_3, .slice A0_4 l0_4.length c0_4], .bool a1] w fun e w' => e = .returned (.tuple #[.agg #[.int .i64 r1, .int .i64 r2, .int .i64 r3], .int .i64 r4]) ∧ Below w.heap.size w w' := by
 have hu32 := Try.underlying32
 have hu30 := Try.underlying30
 have HR0_4 := zC.mk hr0_4
 have HC0_4 := zC.mk hc0_4
 clear hr0_4 hc0_4
 have HB := zC.mk (Below.refl w.heap.size w)
 have H : ((xO.f k a0_0 a0_1 a0_2 a0_3 l0_4).bind fun t201 => (if t201 = true then (yQ.j0 k a1 (a0_0 != 0) a0_0 a0_1 a0_2 a0_3 l0_4) else (yQ.j0 k a1 true a0_0 a0_1 a0_2 a0_3 l0_4))) = some (r1, r2, r3, r4) := h
 clear h
 have HC3 := zC.mk H
 clear H
 go_enter Try.func52, Try.ntmps52
 go_upto_region 1 with (first | ((with_reducible refine zP (N := 2) rfl ?_); refine zN ?hg (N := 2) ?hd (cs := #[.int .i64 a0_0, .int .i64 a0_1, .int .i64 a0_2, .int .i64 a0_3, .slice A0_4 l0_4.length c0_4]) (t := 32) ?hr ?_; (case hd => rfl); (case hg => rfl); (case hr => first | (go_simp; done) | (go_simp; rfl)); intro gb199 hg w4 hbox hb; have n0_ := zC.mk (zL (by repeat (first | (with_reducible first | exact HB.out | apply zG | apply zA | apply zD) | exact HB.out)) hb); have n1_ := zC.mk (hbox); have n2_ := zC.mk ((by rw [hg]; exact (zM (by repeat (first | (with_reducible first | exact HB.out | apply zG | apply zA | apply zD) | exact HB.out))) : w.heap.size ≤ gb199)); have n3_ := n2_; clear HB; have HB := n0_; have BK199 := n1_; have GW199 := n2_; have GE199 := n3_; clear n0_ n1_ n2_ n3_; clear hb hbox hg) | ((with_reducible refine zP (N := 4) rfl ?_); refine zN ?hg (N := 4) ?hd (cs := #[.int .i64 0, .int .i64 0, .int .i64 0]) (t := 30) ?hr ?_; (case hd => rfl); (case hg => rfl); (case hr => first | (go_simp; done) | (go_simp; rfl)); intro gb200 hg w5 hbox hb; have n0_ := zC.mk (zK (g := gb199) (o := .cells #[.int .i64 a0_0, .int .i64 a0_1, .int .i64 a0_2, .int .i64 a0_3, .slice A0_4 l0_4.length c0_4] 32 (0, 0)) (by (with_reducible repeat (first | refine zF ?_ _ | refine zI ?_ | refine zE ?_ _)); exact BK199.out) hb); have n1_ := zC.mk (zL (by repeat (first | (with_reducible first | exact HB.out | apply zG | apply zA | apply zD | refine zH ?_ GE199.out) | exact HB.out)) hb); have n2_ := zC.mk (hbox); have n3_ := zC.mk ((by rw [hg]; exact (zM (by repeat (first | (with_reducible first | exact HB.out | apply zG | apply zA | apply zD | refine zH ?_ GE199.out) | exact HB.out))) : w.heap.size ≤ gb200)); have n4_ := n3_; have n5_ := zC.mk ((by rw [hg]; exact Nat.ne_of_lt (zV (by (with_reducible repeat (first | refine zF ?_ _ | refine zI ?_ | refine zE ?_ _)); exact BK199.out)) : gb199 ≠ gb200)); have n6_ := zC.mk n5_.out.symm; clear BK199; clear HB; have BK199 := n0_; have HB := n1_; have BK200 := n2_; have GW200 := n3_; have GE200 := n4_; have NB199_200 := n5_; have NB200_199 := n6_; clear n0_ n1_ n2_ n3_ n4_ n5_ n6_; clear hb hbox hg))
 (try simp only [Act.put, List.setIfInBounds_toArray, List.set_cons_zero, List.set_cons_succ])
 go_cut [13] (fun v13 wc => ∃ (kq : Nat) (x13_2 : Bool), v13 = .bool x13_2 ∧ zC (yQ.j0 kq a1 x13_2 a0_0 a0_1 a0_2 a0_3 l0_4 = some (r1, r2, r3, r4)) ∧ zC (kq ≤ k) ∧ zC (wc.heap[gb199]? = some (.cells #[.int .i64 a0_0, .int .i64 a0_1, .int .i64 a0_2, .int .i64 a0_3, (.slice A0_4 l0_4.length c0_4)] 32 (0, 0))) ∧ zC (wc.heap[gb200]? = some (.cells #[.int .i64 0, .int .i64 0, .int .i64 0] 30 (0, 0))) ∧ zC (Below w.heap.size w wc))
 case first =>
  have H := HC3.out
  clear HC3
  replace H := Option.bind_eq_some_iff.mp H
  obtain ⟨t201, A60, H⟩ := H
  replace H : (if t201 = true then (yQ.j0 k a1 (a0_0 != 0) a0_0 a0_1 a0_2 a0_3 l0_4) else (yQ.j0 k a1 true a0_0 a0_1 a0_2 a0_3 l0_4)) = some (r1, r2, r3, r4) := H
  have A6 := zC.mk A60
  clear A60
  by_cases c7 : t201 = true
  ·
   subst c7
   have H1 : (yQ.j0 k a1 (a0_0 != 0) a0_0 a0_1 a0_2 a0_3 l0_4) = some (r1, r2, r3, r4) := by rw [if_pos rfl] at H; exact H
   clear H
   have H := H1
   clear H1
   have H' := zC.mk H
   clear H
   have hnb8 := NB199_200.out
   have hnc8 := NB200_199.out
   have hcz9_0 : w5.cell? ⟨gb199, 0, none⟩ = some (.int .i64 a0_0) := zB BK199.out 0
   have hcz9_1 : w5.cell? ⟨gb199, 1, none⟩ = some (.int .i64 a0_1) := zB BK199.out 1
   have hcz9_2 : w5.cell? ⟨gb199, 2, none⟩ = some (.int .i64 a0_2) := zB BK199.out 2
   have hcz9_3 : w5.cell? ⟨gb199, 3, none⟩ = some (.int .i64 a0_3) := zB BK199.out 3
   have hcz9_4 : w5.cell? ⟨gb199, 4, none⟩ = some (.slice A0_4 l0_4.length c0_4) := zB BK199.out 4
   have hfz9_0 := zJ BK199.out 0
   have hfz9_1 := zJ BK199.out 1
   have hfz9_2 := zJ BK199.out 2
   have hfz9_3 := zJ BK199.out 3
   have hfz9_4 := zJ BK199.out 4
   go_wp2_with (first | ((with_reducible refine zQ (f := 90) rfl ?_); refine zX (some 7) rfl rfl Try.func90 (by kernel_rfl) rfl #[.agg #[.int .i64 a0_0, .int .i64 a0_1, .int .i64 a0_2, .int .i64 a0_3, .slice A0_4 l0_4.length c0_4]] rfl (by (try simp only [List.map_toArray, List.map_cons, List.map_nil]); first | done | rfl) ?_; (with_reducible refine (xO.calls k a0_0 a0_1 a0_2 a0_3 _ _ l0_4 true _ ?side1 ?side2 A6.out).mono ?_); (case side1 => repeat (first | exact (Kd.C_below HR0_4.out HB.out) | (with_reducible refine Kd.C_alloc ?_ _) | (with_reducible refine Kd.C_drewN ?_ _) | (with_reducible refine Kd.C_drew ?_))); (case side2 => exact HC0_4.out); rintro e w10 ⟨rfl, hb⟩; refine ⟨_, rfl, ?_⟩; have n0_ := zC.mk (zK (g := gb199) (o := .cells #[.int .i64 a0_0, .int .i64 a0_1, .int .i64 a0_2, .int .i64 a0_3, .slice A0_4 l0_4.length c0_4] 32 (0, 0)) (by (with_reducible repeat (first | refine zF ?_ _ | refine zI ?_ | refine zE ?_ _)); exact BK199.out) hb); have n1_ := zC.mk (zK (g := gb200) (o := .cells #[.int .i64 0, .int .i64 0, .int .i64 0] 30 (0, 0)) (by (with_reducible repeat (first | refine zF ?_ _ | refine zI ?_ | refine zE ?_ _)); exact BK200.out) hb); have n2_ := zC.mk (zL (by repeat (first | (with_reducible first | exact HB.out | apply zG | apply zA | apply zD | refine zH ?_ GE199.out | refine zH ?_ GE200.out) | exact HB.out)) hb); clear BK199; clear BK200; clear HB; have BK199 := n0_; have BK200 := n1_; have HB := n2_; clear n0_ n1_ n2_; (try clear hb); have hcz11_0 : w10.cell? ⟨gb199, 0, none⟩ = some (.int .i64 a0_0) := zB BK199.out 0; have hcz11_1 : w10.cell? ⟨gb199, 1, none⟩ = some (.int .i64 a0_1) := zB BK199.out 1; have hcz11_2 : w10.cell? ⟨gb199, 2, none⟩ = some (.int .i64 a0_2) := zB BK199.out 2; have hcz11_3 : w10.cell? ⟨gb199, 3, none⟩ = some (.int .i64 a0_3) := zB BK199.out 3; have hcz11_4 : w10.cell? ⟨gb199, 4, none⟩ = some (.slice A0_4 l0_4.length c0_4) := zB BK199.out 4; have hfz11_0 := zJ BK199.out 0; have hfz11_1 := zJ BK199.out 1; have hfz11_2 := zJ BK199.out 2; have hfz11_3 := zJ BK199.out 3; have hfz11_4 := zJ BK199.out 4))
   go_meet
   case rel => exact ⟨_, ((a0_0 != 0)), (by first | rfl | (simp; done) | (simp [*]; done)), H', ⟨by first | omega | exact Nat.le_refl _⟩, ⟨by (with_reducible repeat (first | refine zF ?_ _ | refine zI ?_ | refine zE ?_ _)); exact BK199.out⟩, ⟨by (with_reducible repeat (first | refine zF ?_ _ | refine zI ?_ | refine zE ?_ _)); exact BK200.out⟩, ⟨by repeat (first | (with_reducible first | exact HB.out | apply zG | apply zA | apply zD | refine zH ?_ GE199.out | refine zH ?_ GE200.out) | exact HB.out)⟩⟩
  ·
   replace c7 := Bool.eq_false_iff.mpr c7
   subst c7
   have H1 : (yQ.j0 k a1 true a0_0 a0_1 a0_2 a0_3 l0_4) = some (r1, r2, r3, r4) := by rw [if_neg (show ¬ (false = true) by decide)] at H; exact H
   clear H
   have H := H1
   clear H1
   have H' := zC.mk H
   clear H
   have hnb12 := NB199_200.out
   have hnc12 := NB200_199.out
   have hcz13_0 : w5.cell? ⟨gb199, 0, none⟩ = some (.int .i64 a0_0) := zB BK199.out 0
   have hcz13_1 : w5.cell? ⟨gb199, 1, none⟩ = some (.int .i64 a0_1) := zB BK199.out 1
   have hcz13_2 : w5.cell? ⟨gb199, 2, none⟩ = some (.int .i64 a0_2) := zB BK199.out 2
   have hcz13_3 : w5.cell? ⟨gb199, 3, none⟩ = some (.int .i64 a0_3) := zB BK199.out 3
   have hcz13_4 : w5.cell? ⟨gb199, 4, none⟩ = some (.slice A0_4 l0_4.length c0_4) := zB BK199.out 4
   have hfz13_0 := zJ BK199.out 0
   have hfz13_1 := zJ BK199.out 1
   have hfz13_2 := zJ BK199.out 2
   have hfz13_3 := zJ BK199.out 3
   have hfz13_4 := zJ BK199.out 4
   go_wp2_with (first | ((with_reducible refine zQ (f := 90) rfl ?_); refine zX (some 7) rfl rfl Try.func90 (by kernel_rfl) rfl #[.agg #[.int .i64 a0_0, .int .i64 a0_1, .int .i64 a0_2, .int .i64 a0_3, .slice A0_4 l0_4.length c0_4]] rfl (by (try simp only [List.map_toArray, List.map_cons, List.map_nil]); first | done | rfl) ?_; (with_reducible refine (xO.calls k a0_0 a0_1 a0_2 a0_3 _ _ l0_4 false _ ?side1 ?side2 A6.out).mono ?_); (case side1 => repeat (first | exact (Kd.C_below HR0_4.out HB.out) | (with_reducible refine Kd.C_alloc ?_ _) | (with_reducible refine Kd.C_drewN ?_ _) | (with_reducible refine Kd.C_drew ?_))); (case side2 => exact HC0_4.out); rintro e w14 ⟨rfl, hb⟩; refine ⟨_, rfl, ?_⟩; have n0_ := zC.mk (zK (g := gb199) (o := .cells #[.int .i64 a0_0, .int .i64 a0_1, .int .i64 a0_2, .int .i64 a0_3, .slice A0_4 l0_4.length c0_4] 32 (0, 0)) (by (with_reducible repeat (first | refine zF ?_ _ | refine zI ?_ | refine zE ?_ _)); exact BK199.out) hb); have n1_ := zC.mk (zK (g := gb200) (o := .cells #[.int .i64 0, .int .i64 0, .int .i64 0] 30 (0, 0)) (by (with_reducible repeat (first | refine zF ?_ _ | refine zI ?_ | refine zE ?_ _)); exact BK200.out) hb); have n2_ := zC.mk (zL (by repeat (first | (with_reducible first | exact HB.out | apply zG | apply zA | apply zD | refine zH ?_ GE199.out | refine zH ?_ GE200.out) | exact HB.out)) hb); clear BK199; clear BK200; clear HB; have BK199 := n0_; have BK200 := n1_; have HB := n2_; clear n0_ n1_ n2_; (try clear hb)))
   go_meet
   case rel => exact ⟨_, (true), (by first | rfl | (simp; done) | (simp [*]; done)), H', ⟨by first | omega | exact Nat.le_refl _⟩, ⟨by (with_reducible repeat (first | refine zF ?_ _ | refine zI ?_ | refine zE ?_ _)); exact BK199.out⟩, ⟨by (with_reducible repeat (first | refine zF ?_ _ | refine zI ?_ | refine zE ?_ _)); exact BK200.out⟩, ⟨by repeat (first | (with_reducible first | exact HB.out | apply zG | apply zA | apply zD | refine zH ?_ GE199.out | refine zH ?_ GE200.out) | exact HB.out)⟩⟩
 case rest =>
  clear HC3
  try clear c1
  try clear p2
  try clear c5
  try clear c7
  try clear c8
  try clear c9
  try clear c12
  try clear hcz11_0
  try clear hcz11_1
  try clear hcz11_2
  try clear hcz11_3
  try clear hcz11_4
  try clear hcz13_0
  try clear hcz13_1
  try clear hcz13_2
  try clear hcz13_3
  try clear hcz13_4
  try clear hcz9_0
  try clear hcz9_1
  try clear hcz9_2
  try clear hcz9_3
  try clear hcz9_4
  try clear hfz11_0
  try clear hfz11_1
  try clear hfz11_2
  try clear hfz11_3
  try clear hfz11_4
  try clear hfz13_0
  try clear hfz13_1
  try clear hfz13_2
  try clear hfz13_3
  try clear hfz13_4
  try clear hfz9_0
  try clear hfz9_1
  try clear hfz9_2
  try clear hfz9_3
  try clear hfz9_4
  obtain ⟨kq, x13_2, rfl, HA, HJ2, BK199, BK200, HB⟩ := hcut
  cases kq with
  | zero => exact absurd HA.out (by simp [yQ.j0])
  | succ kj2 =>
   have H := HA.out
   clear HA
   simp only [yQ.j0] at H
   by_cases c15 : x13_2 = true
   ·
    subst c15
    have H1 : (some (0, 0, 0, 1)) = some (r1, r2, r3, r4) := by rw [if_pos rfl] at H; exact H
    clear H
    have H := H1
    clear H1
    simp only [Option.some.injEq, Prod.mk.injEq] at H
    obtain ⟨rfl, rfl, rfl, rfl⟩ := H
    have hnb16 := NB200_199.out
    have hnc16 := NB199_200.out
    have hcz17_0 : wc.cell? ⟨gb200, 0, none⟩ = some (.int .i64 0) := zB BK200.out 0
    have hcz17_1 : wc.cell? ⟨gb200, 1, none⟩ = some (.int .i64 0) := zB BK200.out 1
    have hcz17_2 : wc.cell? ⟨gb200, 2, none⟩ = some (.int .i64 0) := zB BK200.out 2
    have hfz17_0 := zJ BK200.out 0
    have hfz17_1 := zJ BK200.out 1
    have hfz17_2 := zJ BK200.out 2
    go_wp2
    refine bodyPost_ret (results_ct rfl _ _ gb200 30 #[.int .i64 0, .int .i64 0, .int .i64 0] (0, 0) _ rfl (by (with_reducible repeat (first | refine zF ?_ _ | refine zI ?_ | refine zE ?_ _)); refine zS (cs := #[.int .i64 0, .int .i64 0, .int .i64 0]) ?_ 2 _ rfl; (with_reducible repeat (first | refine zF ?_ _ | refine zI ?_ | refine zE ?_ _)); refine zS (cs := #[.int .i64 0, .int .i64 0, .int .i64 0]) ?_ 1 _ rfl; (with_reducible repeat (first | refine zF ?_ _ | refine zI ?_ | refine zE ?_ _)); refine zS (cs := #[.int .i64 0, .int .i64 0, .int .i64 0]) ?_ 0 _ rfl; (with_reducible repeat (first | refine zF ?_ _ | refine zI ?_ | refine zE ?_ _)); exact BK200.out) Try.underlying30 rfl (by kernel_rfl)) rfl ?_
    exact ⟨by first | rfl | (simp [*, errW_none, errW_some] <;> rfl), by repeat (first | (with_reducible first | exact HB.out | apply zG | apply zA | apply zD | refine zH ?_ GE199.out | refine zH ?_ GE200.out) | exact HB.out)⟩
   ·
    replace c15 := Bool.eq_false_iff.mpr c15
    subst c15
    have H1 : (if a1 = true then ((yT.f kj2 a0_0 a0_1 a0_2 a0_3 l0_4).bind fun bt202 => (some (bt202.1, bt202.2.1, bt202.2.2, 0))) else (some (0, 0, 0, 2))) = some (r1, r2, r3, r4) := by rw [if_neg (show ¬ (false = true) by decide)] at H; exact H
    clear H
    have H := H1
    clear H1
    by_cases c18 : a1 = true
    ·
     subst c18
     have H1 : ((yT.f kj2 a0_0 a0_1 a0_2 a0_3 l0_4).bind fun bt202 => (some (bt202.1, bt202.2.1, bt202.2.2, 0))) = some (r1, r2, r3, r4) := by rw [if_pos rfl] at H; exact H
     clear H
     have H := H1
     clear H1
     replace H := Option.bind_eq_some_iff.mp H
     obtain ⟨⟨t202, t203, t204⟩, A190, H⟩ := H
     replace H : (some (t202, t203, t204, 0)) = some (r1, r2, r3, r4) := H
     have A19 := zC.mk A190
     clear A190
     simp only [Option.some.injEq, Prod.mk.injEq] at H
     obtain ⟨rfl, rfl, rfl, rfl⟩ := H
     have hnb20 := NB199_200.out
     have hnc20 := NB200_199.out
     have hcz21_0 : wc.cell? ⟨gb199, 0, none⟩ = some (.int .i64 a0_0) := zB BK199.out 0
     have hcz21_1 : wc.cell? ⟨gb199, 1, none⟩ = some (.int .i64 a0_1) := zB BK199.out 1
     have hcz21_2 : wc.cell? ⟨gb199, 2, none⟩ = some (.int .i64 a0_2) := zB BK199.out 2
     have hcz21_3 : wc.cell? ⟨gb199, 3, none⟩ = some (.int .i64 a0_3) := zB BK199.out 3
     have hcz21_4 : wc.cell? ⟨gb199, 4, none⟩ = some (.slice A0_4 l0_4.length c0_4) := zB BK199.out 4
     have hfz21_0 := zJ BK199.out 0
     have hfz21_1 := zJ BK199.out 1
     have hfz21_2 := zJ BK199.out 2
     have hfz21_3 := zJ BK199.out 3
     have hfz21_4 := zJ BK199.out 4
     go_wp2_with (first | ((with_reducible refine zQ (f := 91) rfl ?_); refine zX (some 19) rfl rfl Try.func91 (by kernel_rfl) rfl #[.agg #[.int .i64 a0_0, .int .i64 a0_1, .int .i64 a0_2, .int .i64 a0_3, .slice A0_4 l0_4.length c0_4]] rfl (by (try simp only [List.map_toArray, List.map_cons, List.map_nil]); first | done | rfl) ?_; (with_reducible refine (yT.calls kj2 a0_0 a0_1 a0_2 a0_3 _ _ l0_4 t202 t203 t204 _ ?side1 ?side2 A19.out).mono ?_); (case side1 => repeat (first | exact (Kd.C_below HR0_4.out HB.out) | (with_reducible refine Kd.C_alloc ?_ _) | (with_reducible refine Kd.C_drewN ?_ _) | (with_reducible refine Kd.C_drew ?_))); (case side2 => exact HC0_4.out); rintro e w22 ⟨rfl, hb⟩; refine ⟨_, rfl, ?_⟩; have n0_ := zC.mk (zK (g := gb199) (o := .cells #[.int .i64 a0_0, .int .i64 a0_1, .int .i64 a0_2, .int .i64 a0_3, .slice A0_4 l0_4.length c0_4] 32 (0, 0)) (by (with_reducible repeat (first | refine zF ?_ _ | refine zI ?_ | refine zE ?_ _)); exact BK199.out) hb); have n1_ := zC.mk (zK (g := gb200) (o := .cells #[.int .i64 0, .int .i64 0, .int .i64 0] 30 (0, 0)) (by (with_reducible repeat (first | refine zF ?_ _ | refine zI ?_ | refine zE ?_ _)); exact BK200.out) hb); have n2_ := zC.mk (zL (by repeat (first | (with_reducible first | exact HB.out | apply zG | apply zA | apply zD | refine zH ?_ GE199.out | refine zH ?_ GE200.out) | exact HB.out)) hb); clear BK199; clear BK200; clear HB; have BK199 := n0_; have BK200 := n1_; have HB := n2_; clear n0_ n1_ n2_; (try clear hb); have hcz23_0 : w22.cell? ⟨gb200, 0, none⟩ = some (.int .i64 0) := zB BK200.out 0; have hcz23_1 : w22.cell? ⟨gb200, 1, none⟩ = some (.int .i64 0) := zB BK200.out 1; have hcz23_2 : w22.cell? ⟨gb200, 2, none⟩ = some (.int .i64 0) := zB BK200.out 2; have hfz23_0 := zJ BK200.out 0; have hfz23_1 := zJ BK200.out 1; have hfz23_2 := zJ BK200.out 2))
     refine bodyPost_ret (results_ct rfl _ _ gb200 30 #[.int .i64 t202, .int .i64 t203, .int .i64 t204] (0, 0) _ rfl (by (with_reducible repeat (first | refine zF ?_ _ | refine zI ?_ | refine zE ?_ _)); refine zS (cs := #[.int .i64 t202, .int .i64 t203, .int .i64 0]) ?_ 2 _ rfl; (with_reducible repeat (first | refine zF ?_ _ | refine zI ?_ | refine zE ?_ _)); refine zS (cs := #[.int .i64 t202, .int .i64 0, .int .i64 0]) ?_ 1 _ rfl; (with_reducible repeat (first | refine zF ?_ _ | refine zI ?_ | refine zE ?_ _)); refine zS (cs := #[.int .i64 0, .int .i64 0, .int .i64 0]) ?_ 0 _ rfl; (with_reducible repeat (first | refine zF ?_ _ | refine zI ?_ | refine zE ?_ _)); exact BK200.out) Try.underlying30 rfl (by kernel_rfl)) rfl ?_
     exact ⟨by first | rfl | (simp [*, errW_none, errW_some] <;> rfl), by repeat (first | (with_reducible first | exact HB.out | apply zG | apply zA | apply zD | refine zH ?_ GE199.out | refine zH ?_ GE200.out) | exact HB.out)⟩
    ·
     replace c18 := Bool.eq_false_iff.mpr c18
     subst c18
     have H1 : (some (0, 0, 0, 2)) = some (r1, r2, r3, r4) := by rw [if_neg (show ¬ (false = true) by decide)] at H; exact H
     clear H
     have H := H1
     clear H1
     simp only [Option.some.injEq, Prod.mk.injEq] at H
     obtain ⟨rfl, rfl, rfl, rfl⟩ := H
     have hnb24 := NB200_199.out
     have hnc24 := NB199_200.out
     have hcz25_0 : wc.cell? ⟨gb200, 0, none⟩ = some (.int .i64 0) := zB BK200.out 0
     have hcz25_1 : wc.cell? ⟨gb200, 1, none⟩ = some (.int .i64 0) := zB BK200.out 1
     have hcz25_2 : wc.cell? ⟨gb200, 2, none⟩ = some (.int .i64 0) := zB BK200.out 2
     have hfz25_0 := zJ BK200.out 0
     have hfz25_1 := zJ BK200.out 1
     have hfz25_2 := zJ BK200.out 2
     go_wp2
     refine bodyPost_ret (results_ct rfl _ _ gb200 30 #[.int .i64 0, .int .i64 0, .int .i64 0] (0, 0) _ rfl (by (with_reducible repeat (first | refine zF ?_ _ | refine zI ?_ | refine zE ?_ _)); refine zS (cs := #[.int .i64 0, .int .i64 0, .int .i64 0]) ?_ 2 _ rfl; (with_reducible repeat (first | refine zF ?_ _ | refine zI ?_ | refine zE ?_ _)); refine zS (cs := #[.int .i64 0, .int .i64 0, .int .i64 0]) ?_ 1 _ rfl; (with_reducible repeat (first | refine zF ?_ _ | refine zI ?_ | refine zE ?_ _)); refine zS (cs := #[.int .i64 0, .int .i64 0, .int .i64 0]) ?_ 0 _ rfl; (with_reducible repeat (first | refine zF ?_ _ | refine zI ?_ | refine zE ?_ _)); exact BK200.out) Try.underlying30 rfl (by kernel_rfl)) rfl ?_
     exact ⟨by first | rfl | (simp [*, errW_none, errW_some] <;> rfl), by repeat (first | (with_reducible first | exact HB.out | apply zG | apply zA | apply zD | refine zH ?_ GE199.out | refine zH ?_ GE200.out) | exact HB.out)⟩


attribute [local go_sem high] eqA50
/-! ### wM: function 92 -/
theorem wM.calls (a0_0 : Int) (a0_1 : Int) (a0_2 : Int) (a1_0 : Int) (a1_1 : Int) (r : Bool) (w : World) (h : wM.f a0_0 a0_1 a0_2 a1_0 a1_1 = some r) :
  Calls Try.prog 92 #[.agg #[.int .i64 a0_0, .int .i64 a0_1, .int .i64 a0_2], .agg #[.int .i64 a1_0, .int .i64 a1_1]] w fun e w' => e = .returned (.bool r) ∧ Below w.heap.size w w' := by
 have hu30 := Try.underlying30
 have hu50 := Try.underlying50
 have HB := zC.mk (Below.refl w.heap.size w)
 have H : ((wI.f a0_0 a0_1 a0_2 a1_0 a1_1).bind fun bt207 => (some (bt207.1 == 0 && (bt207.2 == 0)))) = some r := h
 clear h
 replace H := Option.bind_eq_some_iff.mp H
 obtain ⟨⟨t207, t208⟩, A30, H⟩ := H
 replace H : (some (t207 == 0 && (t208 == 0))) = some r := H
 have A3 := zC.mk A30
 clear A30
 obtain rfl := Option.some.inj H
 go_enter Try.func92, Try.ntmps92
 go_wp2_with (first | ((with_reducible refine zP (N := 2) rfl ?_); refine zN ?hg (N := 2) ?hd (cs := #[.int .i64 a0_0, .int .i64 a0_1, .int .i64 a0_2]) (t := 30) ?hr ?_; (case hd => rfl); (case hg => rfl); (case hr => first | (go_simp; done) | (go_simp; rfl)); intro gb205 hg w4 hbox hb; have n0_ := zC.mk (zL (by repeat (first | (with_reducible first | exact HB.out | apply zG | apply zA | apply zD) | exact HB.out)) hb); have n1_ := zC.mk (hbox); have n2_ := zC.mk ((by rw [hg]; exact (zM (by repeat (first | (with_reducible first | exact HB.out | apply zG | apply zA | apply zD) | exact HB.out))) : w.heap.size ≤ gb205)); have n3_ := n2_; clear HB; have HB := n0_; have BK205 := n1_; have GW205 := n2_; have GE205 := n3_; clear n0_ n1_ n2_ n3_; clear hb hbox hg) | ((with_reducible refine zP (N := 3) rfl ?_); refine zN ?hg (N := 3) ?hd (cs := #[.int .i64 a1_0, .int .i64 a1_1]) (t := 50) ?hr ?_; (case hd => rfl); (case hg => rfl); (case hr => first | (go_simp; done) | (go_simp; rfl)); intro gb206 hg w5 hbox hb; have n0_ := zC.mk (zK (g := gb205) (o := .cells #[.int .i64 a0_0, .int .i64 a0_1, .int .i64 a0_2] 30 (0, 0)) (by (with_reducible repeat (first | refine zF ?_ _ | refine zI ?_ | refine zE ?_ _)); exact BK205.out) hb); have n1_ := zC.mk (zL (by repeat (first | (with_reducible first | exact HB.out | apply zG | apply zA | apply zD | refine zH ?_ GE205.out) | exact HB.out)) hb); have n2_ := zC.mk (hbox); have n3_ := zC.mk ((by rw [hg]; exact (zM (by repeat (first | (with_reducible first | exact HB.out | apply zG | apply zA | apply zD | refine zH ?_ GE205.out) | exact HB.out))) : w.heap.size ≤ gb206)); have n4_ := n3_; have n5_ := zC.mk ((by rw [hg]; exact Nat.ne_of_lt (zV (by (with_reducible repeat (first | refine zF ?_ _ | refine zI ?_ | refine zE ?_ _)); exact BK205.out)) : gb205 ≠ gb206)); have n6_ := zC.mk n5_.out.symm; clear BK205; clear HB; have BK205 := n0_; have HB := n1_; have BK206 := n2_; have GW206 := n3_; have GE206 := n4_; have NB205_206 := n5_; have NB206_205 := n6_; clear n0_ n1_ n2_ n3_ n4_ n5_ n6_; clear hb hbox hg; have hnb6 := NB205_206.out; have hnc6 := NB206_205.out; have hcz7_0 : w5.cell? ⟨gb205, 0, none⟩ = some (.int .i64 a0_0) := zB BK205.out 0; have hcz7_1 : w5.cell? ⟨gb205, 1, none⟩ = some (.int .i64 a0_1) := zB BK205.out 1; have hcz7_2 : w5.cell? ⟨gb205, 2, none⟩ = some (.int .i64 a0_2) := zB BK205.out 2; have hfz7_0 := zJ BK205.out 0; have hfz7_1 := zJ BK205.out 1; have hfz7_2 := zJ BK205.out 2; have hcz8_0 : w5.cell? ⟨gb206, 0, none⟩ = some (.int .i64 a1_0) := zB BK206.out 0; have hcz8_1 : w5.cell? ⟨gb206, 1, none⟩ = some (.int .i64 a1_1) := zB BK206.out 1; have hfz8_0 := zJ BK206.out 0; have hfz8_1 := zJ BK206.out 1) | ((with_reducible refine zQ (f := 103) rfl ?_); refine zX (some 7) rfl rfl Try.func103 (by kernel_rfl) rfl #[.agg #[.int .i64 a0_0, .int .i64 a0_1, .int .i64 a0_2], .agg #[.int .i64 a1_0, .int .i64 a1_1]] rfl (by (try simp only [List.map_toArray, List.map_cons, List.map_nil]); first | done | rfl) ?_; (with_reducible refine (wI.calls a0_0 a0_1 a0_2 a1_0 a1_1 t207 t208 _ A3.out).mono ?_); rintro e w9 ⟨rfl, hb⟩; refine ⟨_, rfl, ?_⟩; have n0_ := zC.mk (zK (g := gb205) (o := .cells #[.int .i64 a0_0, .int .i64 a0_1, .int .i64 a0_2] 30 (0, 0)) (by (with_reducible repeat (first | refine zF ?_ _ | refine zI ?_ | refine zE ?_ _)); exact BK205.out) hb); have n1_ := zC.mk (zK (g := gb206) (o := .cells #[.int .i64 a1_0, .int .i64 a1_1] 50 (0, 0)) (by (with_reducible repeat (first | refine zF ?_ _ | refine zI ?_ | refine zE ?_ _)); exact BK206.out) hb); have n2_ := zC.mk (zL (by repeat (first | (with_reducible first | exact HB.out | apply zG | apply zA | apply zD | refine zH ?_ GE205.out | refine zH ?_ GE206.out) | exact HB.out)) hb); clear BK205; clear BK206; clear HB; have BK205 := n0_; have BK206 := n1_; have HB := n2_; clear n0_ n1_ n2_; (try clear hb)))
 go_ret
 exact ⟨by first | rfl | (simp [*, errW_none, errW_some] <;> rfl), by repeat (first | (with_reducible first | exact HB.out | apply zG | apply zA | apply zD | refine zH ?_ GE205.out | refine zH ?_ GE206.out) | exact HB.out)⟩


/-! ### yP: function 56 -/
theorem yP.calls (k : Nat) (a0_0 : Int) (a0_1 : Int) (a0_2 : Int) (r : Int) (w : World) (h : yP.f k a0_0 a0_1 a0_2 = some r) :
  Calls Try.prog 56 #[.agg #[.int .i64 a0_0, .int .i64 a0_1, .int .i64 a0_2]] w fun e w' => e = .returned (.int .i64 r) ∧ Below w.heap.size w w' := by
 have hu30 := Try.underlying30
 have hu50 := Try.underlying50
 have HB := zC.mk (Below.refl w.heap.size w)
 have H : (yP.l0 k 1 a0_0 a0_1 a0_2) = some r := h
 clear h
 have H' := zC.mk H
 clear H
 go_enter Try.func56, Try.ntmps56
 go_wp2_with (first | ((with_reducible refine zP (N := 1) rfl ?_); refine zN ?hg (N := 1) ?hd (cs := #[.int .i64 a0_0, .int .i64 a0_1, .int .i64 a0_2]) (t := 30) ?hr ?_; (case hd => rfl); (case hg => rfl); (case hr => first | (go_simp; done) | (go_simp; rfl)); intro gb209 hg w2 hbox hb; have n0_ := zC.mk (zL (by repeat (first | (with_reducible first | exact HB.out | apply zG | apply zA | apply zD) | exact HB.out)) hb); have n1_ := zC.mk (hbox); have n2_ := zC.mk ((by rw [hg]; exact (zM (by repeat (first | (with_reducible first | exact HB.out | apply zG | apply zA | apply zD) | exact HB.out))) : w.heap.size ≤ gb209)); have n3_ := n2_; clear HB; have HB := n0_; have BK209 := n1_; have GW209 := n2_; have GE209 := n3_; clear n0_ n1_ n2_ n3_; clear hb hbox hg))
 go_loopg [3] k (fun kq v3 w' => ∃ (x3_1 : Int), v3 = .int .i64 x3_1 ∧ zC (yP.l0 kq x3_1 a0_0 a0_1 a0_2 = some r) ∧ zC (kq ≤ k) ∧ zC (w'.heap[gb209]? = some (.cells #[.int .i64 a0_0, .int .i64 a0_1, .int .i64 a0_2] 30 (0, 0))) ∧ zC (Below w.heap.size w w'))
 case atStart => exact ⟨(1), (by first | rfl | (simp; done) | (simp [*]; done)), H', ⟨Nat.le_refl _⟩, ⟨by (with_reducible repeat (first | refine zF ?_ _ | refine zI ?_ | refine zE ?_ _)); exact BK209.out⟩, ⟨by repeat (first | (with_reducible first | exact HB.out | apply zG | apply zA | apply zD | refine zH ?_ GE209.out) | exact HB.out)⟩⟩
 case round =>
  clear H'
  try clear p2
  obtain ⟨x3_1, rfl, HA, HK1, BK209, HB⟩ := hrel
  cases gk with
  | zero => exact absurd HA.out (by simp [yP.l0])
  | succ k1 =>
   have H := HA.out
   clear HA
   simp only [yP.l0] at H
   replace H := Option.bind_eq_some_iff.mp H
   obtain ⟨t210, A30, H⟩ := H
   replace H : (if t210 = true then (some x3_1) else (yP.l0 k1 (wrap64 (x3_1 + 1)) a0_0 a0_1 a0_2)) = some r := H
   have A3 := zC.mk A30
   clear A30
   by_cases c4 : t210 = true
   ·
    subst c4
    have H1 : (some x3_1) = some r := by rw [if_pos rfl] at H; exact H
    clear H
    have H := H1
    clear H1
    obtain rfl := Option.some.inj H
    have hcz5_0 : wr.cell? ⟨gb209, 0, none⟩ = some (.int .i64 a0_0) := zB BK209.out 0
    have hcz5_1 : wr.cell? ⟨gb209, 1, none⟩ = some (.int .i64 a0_1) := zB BK209.out 1
    have hcz5_2 : wr.cell? ⟨gb209, 2, none⟩ = some (.int .i64 a0_2) := zB BK209.out 2
    have hfz5_0 := zJ BK209.out 0
    have hfz5_1 := zJ BK209.out 1
    have hfz5_2 := zJ BK209.out 2
    go_wp2_with (first | ((with_reducible refine zQ (f := 92) rfl ?_); refine zX (some 7) rfl rfl Try.func92 (by kernel_rfl) rfl #[.agg #[.int .i64 a0_0, .int .i64 a0_1, .int .i64 a0_2], .agg #[.int .i64 0, .int .i64 x3_1]] rfl (by (try simp only [List.map_toArray, List.map_cons, List.map_nil]); first | done | rfl) ?_; (with_reducible refine (wM.calls a0_0 a0_1 a0_2 0 x3_1 true _ A3.out).mono ?_); rintro e w6 ⟨rfl, hb⟩; refine ⟨_, rfl, ?_⟩; have n0_ := zC.mk (zK (g := gb209) (o := .cells #[.int .i64 a0_0, .int .i64 a0_1, .int .i64 a0_2] 30 (0, 0)) (by (with_reducible repeat (first | refine zF ?_ _ | refine zI ?_ | refine zE ?_ _)); exact BK209.out) hb); have n1_ := zC.mk (zL (by repeat (first | (with_reducible first | exact HB.out | apply zG | apply zA | apply zD | refine zH ?_ GE209.out) | exact HB.out)) hb); clear BK209; clear HB; have BK209 := n0_; have HB := n1_; clear n0_ n1_; (try clear hb)))
    go_ret
    exact ⟨by first | rfl | (simp [*, errW_none, errW_some] <;> rfl), by repeat (first | (with_reducible first | exact HB.out | apply zG | apply zA | apply zD | refine zH ?_ GE209.out) | exact HB.out)⟩
   ·
    replace c4 := Bool.eq_false_iff.mpr c4
    subst c4
    have H1 : (yP.l0 k1 (wrap64 (x3_1 + 1)) a0_0 a0_1 a0_2) = some r := by rw [if_neg (show ¬ (false = true) by decide)] at H; exact H
    clear H
    have H := H1
    clear H1
    have H' := zC.mk H
    clear H
    have hcz7_0 : wr.cell? ⟨gb209, 0, none⟩ = some (.int .i64 a0_0) := zB BK209.out 0
    have hcz7_1 : wr.cell? ⟨gb209, 1, none⟩ = some (.int .i64 a0_1) := zB BK209.out 1
    have hcz7_2 : wr.cell? ⟨gb209, 2, none⟩ = some (.int .i64 a0_2) := zB BK209.out 2
    have hfz7_0 := zJ BK209.out 0
    have hfz7_1 := zJ BK209.out 1
    have hfz7_2 := zJ BK209.out 2
    go_wp2_with (first | ((with_reducible refine zQ (f := 92) rfl ?_); refine zX (some 7) rfl rfl Try.func92 (by kernel_rfl) rfl #[.agg #[.int .i64 a0_0, .int .i64 a0_1, .int .i64 a0_2], .agg #[.int .i64 0, .int .i64 x3_1]] rfl (by (try simp only [List.map_toArray, List.map_cons, List.map_nil]); first | done | rfl) ?_; (with_reducible refine (wM.calls a0_0 a0_1 a0_2 0 x3_1 false _ A3.out).mono ?_); rintro e w8 ⟨rfl, hb⟩; refine ⟨_, rfl, ?_⟩; have n0_ := zC.mk (zK (g := gb209) (o := .cells #[.int .i64 a0_0, .int .i64 a0_1, .int .i64 a0_2] 30 (0, 0)) (by (with_reducible repeat (first | refine zF ?_ _ | refine zI ?_ | refine zE ?_ _)); exact BK209.out) hb); have n1_ := zC.mk (zL (by repeat (first | (with_reducible first | exact HB.out | apply zG | apply zA | apply zD | refine zH ?_ GE209.out) | exact HB.out)) hb); clear BK209; clear HB; have BK209 := n0_; have HB := n1_; clear n0_ n1_; (try clear hb)))
    go_roundg k1
    case measure => have := HK1.out; omega
    case rel => exact ⟨(wrap64 (x3_1 + 1)), (by first | rfl | (simp; done) | (simp [*]; done)), H', ⟨by have := HK1.out; omega⟩, ⟨by (with_reducible repeat (first | refine zF ?_ _ | refine zI ?_ | refine zE ?_ _)); exact BK209.out⟩, ⟨by repeat (first | (with_reducible first | exact HB.out | apply zG | apply zA | apply zD | refine zH ?_ GE209.out) | exact HB.out)⟩⟩


/-! ### yV: function 54 -/
theorem yV.calls (k : Nat) (a0_0 : Int) (a0_1 : Int) (a0_2 : Int) (a1 : Int) (r1 : Int) (r2 : Bool) (w : World) (h : yV.f k a0_0 a0_1 a0_2 a1 = some (r1, r2)) :
  Calls Try.prog 54 #[.agg #[.int .i64 a0_0, .int .i64 a0_1, .int .i64 a0_2], .int .i64 a1] w fun e w' => e = .returned (.tuple #[.int .i64 r1, .bool r2]) ∧ Below w.heap.size w w' := by
 have hu30 := Try.underlying30
 have hu50 := Try.underlying50
 have HB := zC.mk (Below.refl w.heap.size w)
 have H : ((yP.f k a0_0 a0_1 a0_2).bind fun t212 => (yV.l0 k a1 t212 0 a0_0 a0_1 a0_2)) = some (r1, r2) := h
 clear h
 replace H := Option.bind_eq_some_iff.mp H
 obtain ⟨t212, A30, H⟩ := H
 replace H : (yV.l0 k a1 t212 0 a0_0 a0_1 a0_2) = some (r1, r2) := H
 have A3 := zC.mk A30
 clear A30
 have H' := zC.mk H
 clear H
 go_enter Try.func54, Try.ntmps54
 go_wp2_with (first | ((with_reducible refine zP (N := 2) rfl ?_); refine zN ?hg (N := 2) ?hd (cs := #[.int .i64 a0_0, .int .i64 a0_1, .int .i64 a0_2]) (t := 30) ?hr ?_; (case hd => rfl); (case hg => rfl); (case hr => first | (go_simp; done) | (go_simp; rfl)); intro gb211 hg w4 hbox hb; have n0_ := zC.mk (zL (by repeat (first | (with_reducible first | exact HB.out | apply zG | apply zA | apply zD) | exact HB.out)) hb); have n1_ := zC.mk (hbox); have n2_ := zC.mk ((by rw [hg]; exact (zM (by repeat (first | (with_reducible first | exact HB.out | apply zG | apply zA | apply zD) | exact HB.out))) : w.heap.size ≤ gb211)); have n3_ := n2_; clear HB; have HB := n0_; have BK211 := n1_; have GW211 := n2_; have GE211 := n3_; clear n0_ n1_ n2_ n3_; clear hb hbox hg; have hcz5_0 : w4.cell? ⟨gb211, 0, none⟩ = some (.int .i64 a0_0) := zB BK211.out 0; have hcz5_1 : w4.cell? ⟨gb211, 1, none⟩ = some (.int .i64 a0_1) := zB BK211.out 1; have hcz5_2 : w4.cell? ⟨gb211, 2, none⟩ = some (.int .i64 a0_2) := zB BK211.out 2; have hfz5_0 := zJ BK211.out 0; have hfz5_1 := zJ BK211.out 1; have hfz5_2 := zJ BK211.out 2) | ((with_reducible refine zQ (f := 56) rfl ?_); refine zX (some 9) rfl rfl Try.func56 (by kernel_rfl) rfl #[.agg #[.int .i64 a0_0, .int .i64 a0_1, .int .i64 a0_2]] rfl (by (try simp only [List.map_toArray, List.map_cons, List.map_nil]); first | done | rfl) ?_; (with_reducible refine (yP.calls k a0_0 a0_1 a0_2 t212 _ A3.out).mono ?_); rintro e w6 ⟨rfl, hb⟩; refine ⟨_, rfl, ?_⟩; have n0_ := zC.mk (zK (g := gb211) (o := .cells #[.int .i64 a0_0, .int .i64 a0_1, .int .i64 a0_2] 30 (0, 0)) (by (with_reducible repeat (first | refine zF ?_ _ | refine zI ?_ | refine zE ?_ _)); exact BK211.out) hb); have n1_ := zC.mk (zL (by repeat (first | (with_reducible first | exact HB.out | apply zG | apply zA | apply zD | refine zH ?_ GE211.out) | exact HB.out)) hb); clear BK211; clear HB; have BK211 := n0_; have HB := n1_; clear n0_ n1_; (try clear hb)))
 go_loopg [7] k (fun kq v7 w' => ∃ (x7_1 : Int), v7 = .int .i64 x7_1 ∧ zC (yV.l0 kq a1 t212 x7_1 a0_0 a0_1 a0_2 = some (r1, r2)) ∧ zC (kq ≤ k) ∧ zC (w'.heap[gb211]? = some (.cells #[.int .i64 a0_0, .int .i64 a0_1, .int .i64 a0_2] 30 (0, 0))) ∧ zC (Below w.heap.size w w'))
 case atStart => exact ⟨(0), (by first | rfl | (simp; done) | (simp [*]; done)), H', ⟨Nat.le_refl _⟩, ⟨by (with_reducible repeat (first | refine zF ?_ _ | refine zI ?_ | refine zE ?_ _)); exact BK211.out⟩, ⟨by repeat (first | (with_reducible first | exact HB.out | apply zG | apply zA | apply zD | refine zH ?_ GE211.out) | exact HB.out)⟩⟩
 case round =>
  clear H'
  try clear p2
  try clear c5
  try clear hcz5_0
  try clear hcz5_1
  try clear hcz5_2
  try clear hfz5_0
  try clear hfz5_1
  try clear hfz5_2
  obtain ⟨x7_1, rfl, HA, HK1, BK211, HB⟩ := hrel
  cases gk with
  | zero => exact absurd HA.out (by simp [yV.l0])
  | succ k1 =>
   have H := HA.out
   clear HA
   simp only [yV.l0] at H
   by_cases c7 : x7_1 < t212
   ·
    rw [if_pos c7] at H
    have c7b0 : decide (x7_1 < t212) = true := decide_eq_true c7
    clear c7
    replace H := Option.bind_eq_some_iff.mp H
    obtain ⟨t213, A80, H⟩ := H
    replace H : (if t213 = true then (some (x7_1, true)) else (yV.l0 k1 a1 t212 (wrap64 (x7_1 + 1)) a0_0 a0_1 a0_2)) = some (r1, r2) := H
    have A8 := zC.mk A80
    clear A80
    by_cases c9 : t213 = true
    ·
     subst c9
     have H1 : (some (x7_1, true)) = some (r1, r2) := by rw [if_pos rfl] at H; exact H
     clear H
     have H := H1
     clear H1
     simp only [Option.some.injEq, Prod.mk.injEq] at H
     obtain ⟨rfl, rfl⟩ := H
     have hcz10_0 : wr.cell? ⟨gb211, 0, none⟩ = some (.int .i64 a0_0) := zB BK211.out 0
     have hcz10_1 : wr.cell? ⟨gb211, 1, none⟩ = some (.int .i64 a0_1) := zB BK211.out 1
     have hcz10_2 : wr.cell? ⟨gb211, 2, none⟩ = some (.int .i64 a0_2) := zB BK211.out 2
     have hfz10_0 := zJ BK211.out 0
     have hfz10_1 := zJ BK211.out 1
     have hfz10_2 := zJ BK211.out 2
     go_wp2_with (first | ((with_reducible refine zQ (f := 92) rfl ?_); refine zX (some 20) rfl rfl Try.func92 (by kernel_rfl) rfl #[.agg #[.int .i64 a0_0, .int .i64 a0_1, .int .i64 a0_2], .agg #[.int .i64 a1, .int .i64 (wrap64 (-x7_1))]] rfl (by (try simp only [List.map_toArray, List.map_cons, List.map_nil]); first | done | rfl) ?_; (with_reducible refine (wM.calls a0_0 a0_1 a0_2 a1 (wrap64 (-x7_1)) true _ A8.out).mono ?_); rintro e w11 ⟨rfl, hb⟩; refine ⟨_, rfl, ?_⟩; have n0_ := zC.mk (zK (g := gb211) (o := .cells #[.int .i64 a0_0, .int .i64 a0_1, .int .i64 a0_2] 30 (0, 0)) (by (with_reducible repeat (first | refine zF ?_ _ | refine zI ?_ | refine zE ?_ _)); exact BK211.out) hb); have n1_ := zC.mk (zL (by repeat (first | (with_reducible first | exact HB.out | apply zG | apply zA | apply zD | refine zH ?_ GE211.out) | exact HB.out)) hb); clear BK211; clear HB; have BK211 := n0_; have HB := n1_; clear n0_ n1_; (try clear hb)))
     go_ret2
     exact ⟨by first | rfl | (simp [*, errW_none, errW_some] <;> rfl), by repeat (first | (with_reducible first | exact HB.out | apply zG | apply zA | apply zD | refine zH ?_ GE211.out) | exact HB.out)⟩
    ·
     replace c9 := Bool.eq_false_iff.mpr c9
     subst c9
     have H1 : (yV.l0 k1 a1 t212 (wrap64 (x7_1 + 1)) a0_0 a0_1 a0_2) = some (r1, r2) := by rw [if_neg (show ¬ (false = true) by decide)] at H; exact H
     clear H
     have H := H1
     clear H1
     have H' := zC.mk H
     clear H
     have hcz12_0 : wr.cell? ⟨gb211, 0, none⟩ = some (.int .i64 a0_0) := zB BK211.out 0
     have hcz12_1 : wr.cell? ⟨gb211, 1, none⟩ = some (.int .i64 a0_1) := zB BK211.out 1
     have hcz12_2 : wr.cell? ⟨gb211, 2, none⟩ = some (.int .i64 a0_2) := zB BK211.out 2
     have hfz12_0 := zJ BK211.out 0
     have hfz12_1 := zJ BK211.out 1
     have hfz12_2 := zJ BK211.out 2
     go_wp2_with (first | ((with_reducible refine zQ (f := 92) rfl ?_); refine zX (some 20) rfl rfl Try.func92 (by kernel_rfl) rfl #[.agg #[.int .i64 a0_0, .int .i64 a0_1, .int .i64 a0_2], .agg #[.int .i64 a1, .int .i64 (wrap64 (-x7_1))]] rfl (by (try simp only [List.map_toArray, List.map_cons, List.map_nil]); first | done | rfl) ?_; (with_reducible refine (wM.calls a0_0 a0_1 a0_2 a1 (wrap64 (-x7_1)) false _ A8.out).mono ?_); rintro e w13 ⟨rfl, hb⟩; refine ⟨_, rfl, ?_⟩; have n0_ := zC.mk (zK (g := gb211) (o := .cells #[.int .i64 a0_0, .int .i64 a0_1, .int .i64 a0_2] 30 (0, 0)) (by (with_reducible repeat (first | refine zF ?_ _ | refine zI ?_ | refine zE ?_ _)); exact BK211.out) hb); have n1_ := zC.mk (zL (by repeat (first | (with_reducible first | exact HB.out | apply zG | apply zA | apply zD | refine zH ?_ GE211.out) | exact HB.out)) hb); clear BK211; clear HB; have BK211 := n0_; have HB := n1_; clear n0_ n1_; (try clear hb)))
     go_roundg k1
     case measure => have := HK1.out; omega
     case rel => exact ⟨(wrap64 (x7_1 + 1)), (by first | rfl | (simp; done) | (simp [*]; done)), H', ⟨by have := HK1.out; omega⟩, ⟨by (with_reducible repeat (first | refine zF ?_ _ | refine zI ?_ | refine zE ?_ _)); exact BK211.out⟩, ⟨by repeat (first | (with_reducible first | exact HB.out | apply zG | apply zA | apply zD | refine zH ?_ GE211.out) | exact HB.out)⟩⟩
   ·
    rw [if_neg c7] at H
    have c7b0 : decide (x7_1 < t212) = false := decide_eq_false c7
    clear c7
    simp only [Option.some.injEq, Prod.mk.injEq] at H
    obtain ⟨rfl, rfl⟩ := H
    go_wp2
    go_ret2
    exact ⟨by first | rfl | (simp [*, errW_none, errW_some] <;> rfl), by repeat (first | (with_reducible first | exact HB.out | apply zG | apply zA | apply zD | refine zH ?_ GE211.out) | exact HB.out)⟩


/-! ### yR: function 55 -/
theorem yR.calls (k : Nat) (a0 : Int) (a1 : Int) (a2 : Int) (a3 : Int) (r : List Int) (w : World) (h : yR.f k a0 a1 a2 a3 = some r) :
  Calls Try.prog 55 #[.int .i64 a0, .int .i64 a1, .int .i64 a2, .int .i64 a3] w fun e w' => ∃ v0_ : Value, e = .returned (v0_) ∧ Kd.R (Kd.int .i64) 2 w' w.heap.size (fun _ => True) v0_ r ∧ Below w.heap.size w w' := by
 have HB := zC.mk (Below.refl w.heap.size w)
 have H : (yR.l0 k a0 a1 a2 a3 (([0] : List Int)) 1) = some r := h
 clear h
 obtain ⟨y214, hy214⟩ : ∃ y_ : List Int, y_ = (([0] : List Int)) := ⟨_, rfl⟩
 replace H : (yR.l0 k a0 a1 a2 a3 y214 1) = some r := by first | (rw [hy214]; with_reducible exact H) | (have H2_ := (Option.bind_some _ _).symm.trans H; rw [hy214]; with_reducible exact H2_) | (have H2_ := (Option.bind_some _ _).symm.trans H; with_reducible exact H2_) | with_reducible exact H | (rw [hy214]; exact H) | exact H
 have Ny214 := zC.mk hy214
 clear hy214
 have H' := zC.mk H
 clear H
 go_enter Try.func55, Try.ntmps55
 go_wp2_with (first | ((with_reducible refine zP (N := 12) rfl ?_); refine Kd.R_lit (Kd.int .i64) _ 2 ?hg (N := 12) ?hd (xs := ([0] : List Int)) (inner := [.int .i64 0]) (ok := fun _ => True) (okp := fun _ => True) ?hr ?hp (fun _ hk => hk) trivial (Below.refl _ _) (Nat.le_refl _) (by simp) ?_; (case hd => rfl); (case hg => rfl); (case hr => first | (go_simp; done) | (go_simp; rfl)); (case hp => exact (Reps.one (show Kd.M (Kd.int .i64) _ _ _ 0 [.int .i64 0] from rfl) (Reps.none _ _))); intro v215 w5 ho6 hb hg_ hnew_; clear hg_ hnew_; (first | rw [← Ny214.out] at ho6 | (simp only [Int.reduceToNat] at ho6; rw [← Ny214.out] at ho6)); have n0_ := zC.mk (Kd.R_lower ho6 (zM (by repeat (first | (with_reducible first | exact HB.out | apply zG | apply zA | apply zD) | exact HB.out)))); have n1_ := zC.mk (zL (by repeat (first | (with_reducible first | exact HB.out | apply zG | apply zA | apply zD) | exact HB.out)) hb); clear HB; have HO216 := n0_; have HB := n1_; clear n0_ n1_; clear hb ho6))
 go_loopg [9, 10] k (fun kq v9 v10 w' => ∃ (x9_1 : List Int) (x10_1 : Int), v10 = .int .i64 x10_1 ∧ zC (yR.l0 kq a0 a1 a2 a3 x9_1 x10_1 = some r) ∧ zC (kq ≤ k) ∧ zC (Kd.R (Kd.int .i64) 2 w' w.heap.size (fun _ => True) v9 x9_1) ∧ zC (Below w.heap.size w w'))
 case atStart => exact ⟨(y214), (1), (by first | rfl | (simp; done) | (simp [*]; done)), H', ⟨Nat.le_refl _⟩, ⟨by (with_reducible repeat (first | apply Kd.R_alloc | apply Kd.R_drewN | apply Kd.R_drew)); exact HO216.out⟩, ⟨by repeat (first | (with_reducible first | exact HB.out | apply zG | apply zA | apply zD) | exact HB.out)⟩⟩
 case round =>
  clear H'
  try clear p2
  try clear c5
  obtain ⟨x9_1, x10_1, rfl, HA, HK1, HO_9, HB⟩ := hrel
  cases gk with
  | zero => exact absurd HA.out (by simp [yR.l0])
  | succ k1 =>
   have H := HA.out
   clear HA
   simp only [yR.l0] at H
   by_cases c7 : x10_1 < a3
   ·
    rw [if_pos c7] at H
    have c7b0 : decide (x10_1 < a3) = true := decide_eq_true c7
    clear c7
    obtain ⟨ji8, hji8⟩ : ∃ j_ : Int, (wrap64 (x10_1 - 1)) = j_ := ⟨_, rfl⟩
    replace H : (if 0 ≤ (ji8) then (if (ji8) < (x9_1.length : Int) then ((xV.f (wrap64 ((wrap64 (x10_1 * a1)) - (wrap64 ((rd x9_1 (ji8)) + a2)))) a0).bind fun t218 => (if x9_1.length < 17592186044416 then (yR.l0 k1 a0 a1 a2 a3 (x9_1 ++ [wrap64 ((wrap64 ((rd x9_1 (ji8)) + a2)) + t218)]) (wrap64 (x10_1 + 1))) else (none))) else (none)) else (none)) = some r := by first | (rw [hji8] at H; exact H) | (simp only [hji8] at H ⊢; exact H)
    have hji8w : (IntKind.i64.wrap (x10_1 - 1)) = ji8 := (zY _).trans hji8
    by_cases c9 : 0 ≤ (ji8)
    ·
     rw [if_pos c9] at H
     have c9b0 : decide (0 ≤ (ji8)) = true := decide_eq_true c9
     clear c9
     by_cases c10 : (ji8) < (x9_1.length : Int)
     ·
      rw [if_pos c10] at H
      have c10b0 : decide ((ji8) < (x9_1.length : Int)) = true := decide_eq_true c10
      clear c10
      replace H := Option.bind_eq_some_iff.mp H
      obtain ⟨t218, A110, H⟩ := H
      replace H : (if x9_1.length < 17592186044416 then (yR.l0 k1 a0 a1 a2 a3 (x9_1 ++ [wrap64 ((wrap64 ((rd x9_1 (ji8)) + a2)) + t218)]) (wrap64 (x10_1 + 1))) else (none)) = some r := H
      have A11 := zC.mk A110
      clear A110
      by_cases c12 : x9_1.length < 17592186044416
      ·
       rw [if_pos c12] at H
       have LMc12 := zC.mk c12
       clear c12
       obtain ⟨y219, hy219⟩ : ∃ y_ : List Int, y_ = (x9_1 ++ [wrap64 ((wrap64 ((rd x9_1 (ji8)) + a2)) + t218)]) := ⟨_, rfl⟩
       replace H : (yR.l0 k1 a0 a1 a2 a3 y219 (wrap64 (x10_1 + 1))) = some r := by first | (rw [hy219]; with_reducible exact H) | (have H2_ := (Option.bind_some _ _).symm.trans H; rw [hy219]; with_reducible exact H2_) | (have H2_ := (Option.bind_some _ _).symm.trans H; with_reducible exact H2_) | with_reducible exact H | (rw [hy219]; exact H) | exact H
       have Ny219 := zC.mk hy219
       clear hy219
       have H' := zC.mk H
       clear H
       obtain ⟨Ao13, co13, eo13⟩ := Kd.R_slice HO_9.out
       subst eo13
       have p217 : 0 ≤ ((ji8) : Int) := of_decide_eq_true (by first | (with_reducible assumption) | assumption)
       have q217 : (ji8) < (x9_1.length : Int) := of_decide_eq_true (by first | (with_reducible assumption) | assumption)
       obtain ⟨ad217, e217, hx217_0⟩ := Kd.at_int (Kd.R_reads' HO_9.out).2.2 (ji8) p217 q217
       cases e217
       replace p217 := eq_true p217
       replace q217 := eq_true q217
       go_wp2_with (first | ((with_reducible refine zQ (f := 93) rfl ?_); refine zX (some 33) rfl rfl Try.func93 (by kernel_rfl) rfl #[.int .i64 (wrap64 ((wrap64 (x10_1 * a1)) - (wrap64 ((rd x9_1 (ji8)) + a2)))), .int .i64 a0] rfl (by (try simp only [List.map_toArray, List.map_cons, List.map_nil]); first | done | (simp only [hji8]; rfl) | rfl | (simp only [List.length_drop, List.length_take]; rfl)) ?_; (with_reducible refine (xV.calls (wrap64 ((wrap64 (x10_1 * a1)) - (wrap64 ((rd x9_1 (ji8)) + a2)))) a0 t218 _ A11.out).mono ?_); rintro e w' ⟨rfl, ⟨nd, rfl⟩⟩; refine ⟨_, rfl, ?_⟩) | ((with_reducible refine gate_builtin (b := .append) (xs := #[.tmp 25, .tmp 35]) rfl ?_); at_builtin; refine Kd.R_append (Kd.int .i64) (w0 := w) w.heap.size rfl (.tmp 25) (.tmp 35) 24 2 (.int .i64 0) 8 rfl Try.underlying24 info2 rfl (by decide) (by omega) (.slice (some ad217) x9_1.length co13) x9_1 (wrap64 ((wrap64 ((rd x9_1 (ji8)) + a2)) + t218)) [.int .i64 (wrap64 ((wrap64 ((rd x9_1 (ji8)) + a2)) + t218))] (fun _ => True) (fun _ => False) rfl rfl ?aP (fun _ hk => hk.elim) ?aF ?aO ?aB ?aS ?aL ?_; (case aP => exact rfl); (case aB => exact (by repeat (first | (with_reducible first | exact HB.out | apply zG | apply zA | apply zD) | exact HB.out))); (case aF => exact (fun _ _ => trivial)); (case aO => exact (by (with_reducible repeat (first | apply Kd.R_alloc | apply Kd.R_drewN | apply Kd.R_drew)); exact HO_9.out)); (case aS => exact (zM (by repeat (first | (with_reducible first | exact HB.out | apply zG | apply zA | apply zD) | exact HB.out)))); (case aL => have := LMc12.out; omega); intro v220 w14 ho hb hg hat; rw [← Ny219.out] at ho; have n0_ := zC.mk (hb); have n1_ := zC.mk (ho); clear HB; clear HO_9; have HB := n0_; have HO221 := n1_; clear n0_ n1_; clear ho hb hg hat))
       go_roundg k1
       case measure => have := HK1.out; omega
       case rel => exact ⟨(y219), (wrap64 (x10_1 + 1)), (by first | rfl | (simp; done) | (simp [*]; done)), H', ⟨by have := HK1.out; omega⟩, ⟨by (with_reducible repeat (first | apply Kd.R_alloc | apply Kd.R_drewN | apply Kd.R_drew)); exact HO221.out⟩, ⟨by repeat (first | (with_reducible first | exact HB.out | apply zG | apply zA | apply zD) | exact HB.out)⟩⟩
      ·
       rw [if_neg c12] at H
       exact absurd H (by simp)
     ·
      rw [if_neg c10] at H
      exact absurd H (by simp)
    ·
     rw [if_neg c9] at H
     exact absurd H (by simp)
   ·
    rw [if_neg c7] at H
    have c7b0 : decide (x10_1 < a3) = false := decide_eq_false c7
    clear c7
    obtain rfl := Option.some.inj H
    go_wp2
    go_ret
    exact ⟨_, by first | rfl | (simp [*, errW_none, errW_some] <;> rfl), by (with_reducible repeat (first | apply Kd.R_alloc | apply Kd.R_drewN | apply Kd.R_drew)); exact HO_9.out, by repeat (first | (with_reducible first | exact HB.out | apply zG | apply zA | apply zD) | exact HB.out)⟩


/-! ### xB: function 17 -/
def xB.T1 : Bool × List (List Nat × List Nat) := (true, [([], []), ([], []), ([1], [1]), ([2, 2], [2]), ([3], [3]), ([4, 3, 3], [3, 4]), ([3, 5], [3, 5]), ([6, 5], [6]), ([7], [7]), ([8, 7, 7], [7, 8]), ([7, 9], [7, 9]), ([0, 10, 9], [0, 10]), ([11], [11]), ([12], [12]), ([12], [12]), ([], []), ([15, 13, 11, 0, 1, 2, 3, 4, 5, 6, 7, 8, 9, 10, 11, 12, 13, 15], [13, 15]), ([14, 16, 0, 1, 2, 3, 4, 5, 6, 7, 8, 9, 10, 11, 12, 13, 14, 15, 16], [14])])
def xB.B1 : List Nat := [0, 0, 2, 6, 14, 30, 62, 126, 254, 510, 1022, 2047, 4095, 8191, 8191, 0, 49151, 131071]
theorem xB.tab1 : rtab .any (opsOf Try.f17 1) = xB.T1 := by kernel_rfl
theorem xB.bits1 : waitsOk xB.T1.2 xB.B1 = true := by kernel_rfl
theorem xB.calls (k : Nat) (a0_0 : Int) (a0_1 : Int) (a0_2 : Int) (a0_3 : Int) (A0_4 : Option Addr) (c0_4 : Nat) (l0_4 : List Int) (a1 : Int) (a2 : Int) (a3 : Int) (r1 : List Int) (r2 : Int) (w : World) (hr0_4 : Kd.C (Kd.int .i64) w A0_4 l0_4.length l0_4) (hc0_4 : l0_4.length ≤ c0_4) (h : xB.f k a0_0 a0_1 a0_2 a0_3 l0_4 a1 a2 a3 = some (r1, r2)) :
  Calls Try.prog 17 #[.agg #[.int .i64 a0_0, .int .i64 a0_1, .int .i64 a0_2, .int .i64 a0_3, .slice A0_4 l0_4.length c0_4], .int .i64 a1, .int .i64 a2, .int .i64 a3] w fun e w' => ∃ v0_ : Value, e = .returned (.tuple #[v0_, .int .i64 r2]) ∧ Kd.R (Kd.int .i64) 2 w' w.heap.size (fun _ => True) v0_ r1 ∧ Below w.heap.size w w' := by
 have hu32 := Try.underlying32
 have hu30 := Try.underlying30
 have HR0_4 := zC.mk hr0_4
 have HC0_4 := zC.mk hc0_4
 clear hr0_4 hc0_4
 have HB := zC.mk (Below.refl w.heap.size w)
 have H : ((xH.f a1 1 1000).bind fun t223 => (if t223 = true then ((xH.f a2 1 1000).bind fun t224 => (if t224 = true then ((xH.f a3 1 100).bind fun t225 => ((yQ.f k a0_0 a0_1 a0_2 a0_3 l0_4 t225).bind fun bt226 => (if bt226.2.2.2 = 0 then ((yV.f k bt226.1 bt226.2.1 bt226.2.2.1 a1).bind fun bt231 => (if bt231.2 = true then ((yP.f k bt226.1 bt226.2.1 bt226.2.2.1).bind fun t233 => ((yR.f k t233 bt231.1 a2 a3).bind fun t234 => (some (t234, 0)))) else (some (([] : List Int), 4)))) else (some (([] : List Int), bt226.2.2.2))))) else ((yQ.f k a0_0 a0_1 a0_2 a0_3 l0_4 false).bind fun bt237 => (if bt237.2.2.2 = 0 then (none) else (some (([] : List Int), bt237.2.2.2)))))) else ((yQ.f k a0_0 a0_1 a0_2 a0_3 l0_4 false).bind fun bt242 => (if bt242.2.2.2 = 0 then (none) else (some (([] : List Int), bt242.2.2.2)))))) = some (r1, r2) := h
 clear h
 replace H := Option.bind_eq_some_iff.mp H
 obtain ⟨t223, A50, H⟩ := H
 replace H : (if t223 = true then ((xH.f a2 1 1000).bind fun t224 => (if t224 = true then ((xH.f a3 1 100).bind fun t225 => ((yQ.f k a0_0 a0_1 a0_2 a0_3 l0_4 t225).bind fun bt226 => (if bt226.2.2.2 = 0 then ((yV.f k bt226.1 bt226.2.1 bt226.2.2.1 a1).bind fun bt231 => (if bt231.2 = true then ((yP.f k bt226.1 bt226.2.1 bt226.2.2.1).bind fun t233 => ((yR.f k t233 bt231.1 a2 a3).bind fun t234 => (some (t234, 0)))) else (some (([] : List Int), 4)))) else (some (([] : List Int), bt226.2.2.2))))) else ((yQ.f k a0_0 a0_1 a0_2 a0_3 l0_4 false).bind fun bt237 => (if bt237.2.2.2 = 0 then (none) else (some (([] : List Int), bt237.2.2.2)))))) else ((yQ.f k a0_0 a0_1 a0_2 a0_3 l0_4 false).bind fun bt242 => (if bt242.2.2.2 = 0 then (none) else (some (([] : List Int), bt242.2.2.2))))) = some (r1, r2) := H
 have A5 := zC.mk A50
 clear A50
 by_cases c6 : t223 = true
 ·
  subst c6
  have H1 : ((xH.f a2 1 1000).bind fun t224 => (if t224 = true then ((xH.f a3 1 100).bind fun t225 => ((yQ.f k a0_0 a0_1 a0_2 a0_3 l0_4 t225).bind fun bt226 => (if bt226.2.2.2 = 0 then ((yV.f k bt226.1 bt226.2.1 bt226.2.2.1 a1).bind fun bt231 => (if bt231.2 = true then ((yP.f k bt226.1 bt226.2.1 bt226.2.2.1).bind fun t233 => ((yR.f k t233 bt231.1 a2 a3).bind fun t234 => (some (t234, 0)))) else (some (([] : List Int), 4)))) else (some (([] : List Int), bt226.2.2.2))))) else ((yQ.f k a0_0 a0_1 a0_2 a0_3 l0_4 false).bind fun bt237 => (if bt237.2.2.2 = 0 then (none) else (some (([] : List Int), bt237.2.2.2)))))) = some (r1, r2) := by rw [if_pos rfl] at H; exact H
  clear H
  have H := H1
  clear H1
  replace H := Option.bind_eq_some_iff.mp H
  obtain ⟨t224, A70, H⟩ := H
  replace H : (if t224 = true then ((xH.f a3 1 100).bind fun t225 => ((yQ.f k a0_0 a0_1 a0_2 a0_3 l0_4 t225).bind fun bt226 => (if bt226.2.2.2 = 0 then ((yV.f k bt226.1 bt226.2.1 bt226.2.2.1 a1).bind fun bt231 => (if bt231.2 = true then ((yP.f k bt226.1 bt226.2.1 bt226.2.2.1).bind fun t233 => ((yR.f k t233 bt231.1 a2 a3).bind fun t234 => (some (t234, 0)))) else (some (([] : List Int), 4)))) else (some (([] : List Int), bt226.2.2.2))))) else ((yQ.f k a0_0 a0_1 a0_2 a0_3 l0_4 false).bind fun bt237 => (if bt237.2.2.2 = 0 then (none) else (some (([] : List Int), bt237.2.2.2))))) = some (r1, r2) := H
  have A7 := zC.mk A70
  clear A70
  by_cases c8 : t224 = true
  ·
   subst c8
   have H1 : ((xH.f a3 1 100).bind fun t225 => ((yQ.f k a0_0 a0_1 a0_2 a0_3 l0_4 t225).bind fun bt226 => (if bt226.2.2.2 = 0 then ((yV.f k bt226.1 bt226.2.1 bt226.2.2.1 a1).bind fun bt231 => (if bt231.2 = true then ((yP.f k bt226.1 bt226.2.1 bt226.2.2.1).bind fun t233 => ((yR.f k t233 bt231.1 a2 a3).bind fun t234 => (some (t234, 0)))) else (some (([] : List Int), 4)))) else (some (([] : List Int), bt226.2.2.2))))) = some (r1, r2) := by rw [if_pos rfl] at H; exact H
   clear H
   have H := H1
   clear H1
   replace H := Option.bind_eq_some_iff.mp H
   obtain ⟨t225, A90, H⟩ := H
   replace H : ((yQ.f k a0_0 a0_1 a0_2 a0_3 l0_4 t225).bind fun bt226 => (if bt226.2.2.2 = 0 then ((yV.f k bt226.1 bt226.2.1 bt226.2.2.1 a1).bind fun bt231 => (if bt231.2 = true then ((yP.f k bt226.1 bt226.2.1 bt226.2.2.1).bind fun t233 => ((yR.f k t233 bt231.1 a2 a3).bind fun t234 => (some (t234, 0)))) else (some (([] : List Int), 4)))) else (some (([] : List Int), bt226.2.2.2)))) = some (r1, r2) := H
   have A9 := zC.mk A90
   clear A90
   replace H := Option.bind_eq_some_iff.mp H
   obtain ⟨⟨t226, t227, t228, t229⟩, A100, H⟩ := H
   replace H : (if t229 = 0 then ((yV.f k t226 t227 t228 a1).bind fun bt231 => (if bt231.2 = true then ((yP.f k t226 t227 t228).bind fun t233 => ((yR.f k t233 bt231.1 a2 a3).bind fun t234 => (some (t234, 0)))) else (some (([] : List Int), 4)))) else (some (([] : List Int), t229))) = some (r1, r2) := H
   have A10 := zC.mk A100
   clear A100
   have HX11 := zC.mk H
   clear H
   go_enter Try.func17, Try.ntmps17
   try go_wp2_with (first | ((with_reducible refine zP (N := 4) rfl ?_); refine zN ?hg (N := 4) ?hd (cs := #[.int .i64 a0_0, .int .i64 a0_1, .int .i64 a0_2, .int .i64 a0_3, .slice A0_4 l0_4.length c0_4]) (t := 32) ?hr ?_; (case hd => rfl); (case hg => rfl); (case hr => first | (go_simp; done) | (go_simp; rfl)); intro gb222 hg w12 hbox hb; have n0_ := zC.mk (zL (by repeat (first | (with_reducible first | exact HB.out | apply zG | apply zA | apply zD) | exact HB.out)) hb); have n1_ := zC.mk (hbox); have n2_ := zC.mk ((by rw [hg]; exact (zM (by repeat (first | (with_reducible first | exact HB.out | apply zG | apply zA | apply zD) | exact HB.out))) : w.heap.size ≤ gb222)); have n3_ := n2_; clear HB; have HB := n0_; have BK222 := n1_; have GW222 := n2_; have GE222 := n3_; clear n0_ n1_ n2_ n3_; clear hb hbox hg))
   have n0_ := zC.mk (zI BK222.out)
   have n1_ := zC.mk (zD HB.out)
   clear BK222
   clear HB
   have BK222 := n0_
   have HB := n1_
   clear n0_ n1_
   refine start_ (n := 18) (S := fun w' => w'.cell? ⟨gb222, 0, none⟩ = some (.int .i64 a0_0) ∧ w'.cell? ⟨gb222, 1, none⟩ = some (.int .i64 a0_1) ∧ w'.cell? ⟨gb222, 2, none⟩ = some (.int .i64 a0_2) ∧ w'.cell? ⟨gb222, 3, none⟩ = some (.int .i64 a0_3) ∧ w'.cell? ⟨gb222, 4, none⟩ = some (.slice A0_4 l0_4.length c0_4)) (ds := []) #[false, false, false, false, false, false, false, false, false, false, false, false, false, false, false, false, false, false] (by kernel_rfl) rfl rfl ⟨zB BK222.out 0, zB BK222.out 1, zB BK222.out 2, zB BK222.out 3, zB BK222.out 4⟩ (fun hHeld => ?_); refine yE xB.tab1 xB.bits1 (fun HT_ HW_ => ?_)
   generalize w12.drew = w13 at BK222 HB hHeld ⊢
   refine zR (i := 1) (N := some 16) (v := ?_) (a' := ?_) #[false, true, false, false, false, false, false, false, false, false, false, false, false, false, false, false, false, false] rfl rfl (zO HT_.out (by kernel_rfl)) (fun _ _ _ h => h) (Or.inl ⟨by rfl, ?_⟩) ?_ ?_
   rotate_left
   ·
    intro w'
    go_simp
    with_reducible rfl
   rotate_left
   ·
    go_simp
    rfl
   refine yC (i := 0) (N := some 15) (v := ?_) (a' := ?_) #[true, true, false, false, false, false, false, false, false, false, false, false, false, false, false, false, false, false] rfl rfl (zW HT_.out HW_.out (by kernel_rfl)) (fun _ _ _ h => h) (Or.inl ⟨by rfl, ?_⟩) hHeld ?_ ?_
   rotate_left
   ·
    rintro w' ⟨s0, s1, s2, s3, s4⟩
    go_simp
    with_reducible rfl
   rotate_left
   ·
    go_simp
    rfl
   refine join_ (σ := Nat) 2 #[true, true, true, true, true, true, true, true, true, true, true, true, true, true, true, true, false, false] (fun s_ => [(17, .bool true), (20, .bool true), (24, .bool t225), (26, .tuple #[.agg #[.int .i64 t226, .int .i64 t227, .int .i64 t228], .int .i64 t229]), (10, .pointer (some ⟨s_, 0, none⟩)), (18, .bool true), (19, .int .i64 a2), (21, .bool true), (22, .bool true), (23, .int .i64 a3), (25, .bool t225), (14, .tuple #[.agg #[.int .i64 t226, .int .i64 t227, .int .i64 t228], .int .i64 t229]), (27, .agg #[.int .i64 t226, .int .i64 t227, .int .i64 t228]), (28, .int .i64 t229)]) (fun s_ w' => (w'.cell? ⟨gb222, 0, none⟩ = some (.int .i64 a0_0) ∧ w'.cell? ⟨gb222, 1, none⟩ = some (.int .i64 a0_1) ∧ w'.cell? ⟨gb222, 2, none⟩ = some (.int .i64 a0_2) ∧ w'.cell? ⟨gb222, 3, none⟩ = some (.int .i64 a0_3) ∧ w'.cell? ⟨gb222, 4, none⟩ = some (.slice A0_4 l0_4.length c0_4)) ∧ (w'.heap[gb222]? = some (.cells #[.int .i64 a0_0, .int .i64 a0_1, .int .i64 a0_2, .int .i64 a0_3, .slice A0_4 l0_4.length c0_4] 32 (0, 0))) ∧ (w'.heap[s_]? = some (.cells #[.int .i64 0, .int .i64 0, .int .i64 0] 30 (0, 0))) ∧ (w.heap.size ≤ s_) ∧ (w.heap.size ≤ s_) ∧ (gb222 ≠ s_) ∧ (s_ ≠ gb222) ∧ (Below w.heap.size w w')) ?_ ?_
   rotate_left
   ·
    intro hJ2_5_9_11_15
    refine join_ (σ := Unit) 3 #[true, true, true, true, true, true, true, true, true, true, true, true, true, true, true, false, false, false] (fun s_ => [(17, .bool true), (20, .bool true), (24, .bool t225), (26, .tuple #[.agg #[.int .i64 t226, .int .i64 t227, .int .i64 t228], .int .i64 t229]), (18, .bool true), (19, .int .i64 a2), (21, .bool true), (22, .bool true), (23, .int .i64 a3), (25, .bool t225), (14, .tuple #[.agg #[.int .i64 t226, .int .i64 t227, .int .i64 t228], .int .i64 t229]), (27, .agg #[.int .i64 t226, .int .i64 t227, .int .i64 t228]), (28, .int .i64 t229)]) (fun s_ w' => (w'.cell? ⟨gb222, 0, none⟩ = some (.int .i64 a0_0) ∧ w'.cell? ⟨gb222, 1, none⟩ = some (.int .i64 a0_1) ∧ w'.cell? ⟨gb222, 2, none⟩ = some (.int .i64 a0_2) ∧ w'.cell? ⟨gb222, 3, none⟩ = some (.int .i64 a0_3) ∧ w'.cell? ⟨gb222, 4, none⟩ = some (.slice A0_4 l0_4.length c0_4)) ∧ (w'.heap[gb222]? = some (.cells #[.int .i64 a0_0, .int .i64 a0_1, .int .i64 a0_2, .int .i64 a0_3, .slice A0_4 l0_4.length c0_4] 32 (0, 0))) ∧ (Below w.heap.size w w')) ?_ ?_
    rotate_left
    ·
     intro hJ2_5_9_11
     refine join_ (σ := Nat) 6 #[true, true, true, true, true, true, true, true, true, true, true, false, false, false, false, true, false, false] (fun s_ => [(17, .bool true), (20, .bool true), (24, .bool t225), (10, .pointer (some ⟨s_, 0, none⟩)), (18, .bool true), (19, .int .i64 a2), (21, .bool true), (22, .bool true), (23, .int .i64 a3), (25, .bool t225)]) (fun s_ w' => (w'.cell? ⟨gb222, 0, none⟩ = some (.int .i64 a0_0) ∧ w'.cell? ⟨gb222, 1, none⟩ = some (.int .i64 a0_1) ∧ w'.cell? ⟨gb222, 2, none⟩ = some (.int .i64 a0_2) ∧ w'.cell? ⟨gb222, 3, none⟩ = some (.int .i64 a0_3) ∧ w'.cell? ⟨gb222, 4, none⟩ = some (.slice A0_4 l0_4.length c0_4)) ∧ (w'.heap[gb222]? = some (.cells #[.int .i64 a0_0, .int .i64 a0_1, .int .i64 a0_2, .int .i64 a0_3, .slice A0_4 l0_4.length c0_4] 32 (0, 0))) ∧ (w'.heap[s_]? = some (.cells #[.int .i64 0, .int .i64 0, .int .i64 0] 30 (0, 0))) ∧ (w.heap.size ≤ s_) ∧ (w.heap.size ≤ s_) ∧ (gb222 ≠ s_) ∧ (s_ ≠ gb222) ∧ (Below w.heap.size w w')) ?_ ?_
     rotate_left
     ·
      intro hJ2_5_9_15
      refine join_ (σ := Unit) 7 #[true, true, true, true, true, true, true, true, true, true, true, false, false, false, false, false, false, false] (fun s_ => [(17, .bool true), (20, .bool true), (24, .bool t225), (18, .bool true), (19, .int .i64 a2), (21, .bool true), (22, .bool true), (23, .int .i64 a3), (25, .bool t225)]) (fun s_ w' => (w'.cell? ⟨gb222, 0, none⟩ = some (.int .i64 a0_0) ∧ w'.cell? ⟨gb222, 1, none⟩ = some (.int .i64 a0_1) ∧ w'.cell? ⟨gb222, 2, none⟩ = some (.int .i64 a0_2) ∧ w'.cell? ⟨gb222, 3, none⟩ = some (.int .i64 a0_3) ∧ w'.cell? ⟨gb222, 4, none⟩ = some (.slice A0_4 l0_4.length c0_4)) ∧ (w'.heap[gb222]? = some (.cells #[.int .i64 a0_0, .int .i64 a0_1, .int .i64 a0_2, .int .i64 a0_3, .slice A0_4 l0_4.length c0_4] 32 (0, 0))) ∧ (Below w.heap.size w w')) ?_ ?_
      rotate_left
      ·
       intro hJ2_5_9
       refine join_ (σ := Nat) 8 #[true, true, true, true, true, true, true, true, true, false, false, false, false, false, false, true, false, false] (fun s_ => [(17, .bool true), (20, .bool true), (10, .pointer (some ⟨s_, 0, none⟩)), (18, .bool true), (19, .int .i64 a2), (21, .bool true), (22, .bool true), (23, .int .i64 a3)]) (fun s_ w' => (w'.cell? ⟨gb222, 0, none⟩ = some (.int .i64 a0_0) ∧ w'.cell? ⟨gb222, 1, none⟩ = some (.int .i64 a0_1) ∧ w'.cell? ⟨gb222, 2, none⟩ = some (.int .i64 a0_2) ∧ w'.cell? ⟨gb222, 3, none⟩ = some (.int .i64 a0_3) ∧ w'.cell? ⟨gb222, 4, none⟩ = some (.slice A0_4 l0_4.length c0_4)) ∧ (w'.heap[gb222]? = some (.cells #[.int .i64 a0_0, .int .i64 a0_1, .int .i64 a0_2, .int .i64 a0_3, .slice A0_4 l0_4.length c0_4] 32 (0, 0))) ∧ (w'.heap[s_]? = some (.cells #[.int .i64 0, .int .i64 0, .int .i64 0] 30 (0, 0))) ∧ (w.heap.size ≤ s_) ∧ (w.heap.size ≤ s_) ∧ (gb222 ≠ s_) ∧ (s_ ≠ gb222) ∧ (Below w.heap.size w w')) ?_ ?_
       rotate_left
       ·
        intro hJ2_5_15
        refine join_ (σ := Unit) 9 #[true, true, true, true, true, true, true, true, true, false, false, false, false, false, false, false, false, false] (fun s_ => [(17, .bool true), (20, .bool true), (18, .bool true), (19, .int .i64 a2), (21, .bool true), (22, .bool true), (23, .int .i64 a3)]) (fun s_ w' => (w'.cell? ⟨gb222, 0, none⟩ = some (.int .i64 a0_0) ∧ w'.cell? ⟨gb222, 1, none⟩ = some (.int .i64 a0_1) ∧ w'.cell? ⟨gb222, 2, none⟩ = some (.int .i64 a0_2) ∧ w'.cell? ⟨gb222, 3, none⟩ = some (.int .i64 a0_3) ∧ w'.cell? ⟨gb222, 4, none⟩ = some (.slice A0_4 l0_4.length c0_4)) ∧ (w'.heap[gb222]? = some (.cells #[.int .i64 a0_0, .int .i64 a0_1, .int .i64 a0_2, .int .i64 a0_3, .slice A0_4 l0_4.length c0_4] 32 (0, 0))) ∧ (Below w.heap.size w w')) ?_ ?_
        rotate_left
        ·
         intro hJ2_5
         refine join_ (σ := Nat) 12 #[true, true, true, true, true, false, false, false, false, false, false, false, false, false, false, true, false, false] (fun s_ => [(17, .bool true), (10, .pointer (some ⟨s_, 0, none⟩)), (18, .bool true), (19, .int .i64 a2)]) (fun s_ w' => (w'.cell? ⟨gb222, 0, none⟩ = some (.int .i64 a0_0) ∧ w'.cell? ⟨gb222, 1, none⟩ = some (.int .i64 a0_1) ∧ w'.cell? ⟨gb222, 2, none⟩ = some (.int .i64 a0_2) ∧ w'.cell? ⟨gb222, 3, none⟩ = some (.int .i64 a0_3) ∧ w'.cell? ⟨gb222, 4, none⟩ = some (.slice A0_4 l0_4.length c0_4)) ∧ (w'.heap[gb222]? = some (.cells #[.int .i64 a0_0, .int .i64 a0_1, .int .i64 a0_2, .int .i64 a0_3, .slice A0_4 l0_4.length c0_4] 32 (0, 0))) ∧ (w'.heap[s_]? = some (.cells #[.int .i64 0, .int .i64 0, .int .i64 0] 30 (0, 0))) ∧ (w.heap.size ≤ s_) ∧ (w.heap.size ≤ s_) ∧ (gb222 ≠ s_) ∧ (s_ ≠ gb222) ∧ (Below w.heap.size w w')) ?_ ?_
         rotate_left
         ·
          intro hJ2_15
          refine join_ (σ := Unit) 13 #[true, true, true, true, true, false, false, false, false, false, false, false, false, false, false, false, false, false] (fun s_ => [(17, .bool true), (18, .bool true), (19, .int .i64 a2)]) (fun s_ w' => (w'.cell? ⟨gb222, 0, none⟩ = some (.int .i64 a0_0) ∧ w'.cell? ⟨gb222, 1, none⟩ = some (.int .i64 a0_1) ∧ w'.cell? ⟨gb222, 2, none⟩ = some (.int .i64 a0_2) ∧ w'.cell? ⟨gb222, 3, none⟩ = some (.int .i64 a0_3) ∧ w'.cell? ⟨gb222, 4, none⟩ = some (.slice A0_4 l0_4.length c0_4)) ∧ (w'.heap[gb222]? = some (.cells #[.int .i64 a0_0, .int .i64 a0_1, .int .i64 a0_2, .int .i64 a0_3, .slice A0_4 l0_4.length c0_4] 32 (0, 0))) ∧ (Below w.heap.size w w')) ?_ ?_
          rotate_left
          ·
           intro hJ2
           refine join_ (σ := Nat) 15 #[true, true, false, false, false, false, false, false, false, false, false, false, false, false, false, true, false, false] (fun s_ => [(10, .pointer (some ⟨s_, 0, none⟩))]) (fun s_ w' => (w'.cell? ⟨gb222, 0, none⟩ = some (.int .i64 a0_0) ∧ w'.cell? ⟨gb222, 1, none⟩ = some (.int .i64 a0_1) ∧ w'.cell? ⟨gb222, 2, none⟩ = some (.int .i64 a0_2) ∧ w'.cell? ⟨gb222, 3, none⟩ = some (.int .i64 a0_3) ∧ w'.cell? ⟨gb222, 4, none⟩ = some (.slice A0_4 l0_4.length c0_4)) ∧ (w'.heap[gb222]? = some (.cells #[.int .i64 a0_0, .int .i64 a0_1, .int .i64 a0_2, .int .i64 a0_3, .slice A0_4 l0_4.length c0_4] 32 (0, 0))) ∧ (w'.heap[s_]? = some (.cells #[.int .i64 0, .int .i64 0, .int .i64 0] 30 (0, 0))) ∧ (w.heap.size ≤ s_) ∧ (w.heap.size ≤ s_) ∧ (gb222 ≠ s_) ∧ (s_ ≠ gb222) ∧ (Below w.heap.size w w')) ?_ ?_
           rotate_left
           ·
            intro hJ15
            refine two_ (i := 2) (j := 15) (Ni := some 17) (Nj := some 10) #[true, true, true, false, false, false, false, false, false, false, false, false, false, false, false, false, false, false] #[true, true, false, false, false, false, false, false, false, false, false, false, false, false, false, true, false, false] rfl rfl rfl rfl (two_of HT_.out (by kernel_rfl)) (by decide) (by decide) (fun K hK => ?_) (fun K hK => ?_)
            ·
             skip
             refine yD Try.func53 (by kernel_rfl) rfl #[.int .i64 a1, .int .i64 1, .int .i64 1000] (by rfl) rfl rfl (by (try simp only [List.map_toArray, List.map_cons, List.map_nil]); first | done | rfl) ?_
             with_reducible refine (xH.calls a1 1 1000 true _ A5.out).mono ?_
             rintro e w' ⟨rfl, ⟨nd, rfl⟩⟩
             refine ⟨_, rfl, ?_⟩
             refine hK.out _ _ ⟨zB BK222.out 0, zB BK222.out 1, zB BK222.out 2, zB BK222.out 3, zB BK222.out 4⟩ (fun hHeld => ?_)
             clear hK K
             refine yA (a' := ?_) ?_ ?_
             rotate_left
             ·
              show Act.put _ (some 17) _ = _
              go_simp
              rfl
             refine zR (i := 3) (N := some 18) (v := ?_) (a' := ?_) #[true, true, true, true, false, false, false, false, false, false, false, false, false, false, false, false, false, false] rfl rfl (zO HT_.out (by kernel_rfl)) (fun _ _ _ h => h) (Or.inl ⟨by rfl, ?_⟩) ?_ ?_
             rotate_left
             ·
              intro w'
              go_simp
              with_reducible rfl
             rotate_left
             ·
              go_simp
              rfl
             refine zR (i := 4) (N := some 19) (v := ?_) (a' := ?_) #[true, true, true, true, true, false, false, false, false, false, false, false, false, false, false, false, false, false] rfl rfl (zO HT_.out (by kernel_rfl)) (fun _ _ _ h => h) (Or.inl ⟨by rfl, ?_⟩) ?_ ?_
             rotate_left
             ·
              intro w'
              go_simp
              with_reducible rfl
             rotate_left
             ·
              go_simp
              rfl
             exact yA (by first | (simp only [putAll, Act.put, List.setIfInBounds_toArray, List.set_cons_zero, List.set_cons_succ]; done) | (simp only [putAll, Act.put, List.setIfInBounds_toArray, List.set_cons_zero, List.set_cons_succ]; rfl)) (hJ2 () _ ⟨hHeld, (by (with_reducible repeat (first | refine zF ?_ _ | refine zI ?_ | refine zE ?_ _)); exact BK222.out), (by repeat (first | (with_reducible first | exact HB.out | apply zG | apply zA | apply zD | refine zH ?_ GE222.out) | exact HB.out))⟩)
            ·
             skip
             refine box_step ?hg (N := 10) ?hd (cs := #[.int .i64 0, .int .i64 0, .int .i64 0]) (t := 30) ?hr ?_; (case hd => rfl); (case hg => rfl); (case hr => first | (go_simp; done) | (go_simp; rfl))
             intro gb230 hg w14 hbox hb
             have n0_ := zC.mk (zK (g := gb222) (o := .cells #[.int .i64 a0_0, .int .i64 a0_1, .int .i64 a0_2, .int .i64 a0_3, .slice A0_4 l0_4.length c0_4] 32 (0, 0)) (by (with_reducible repeat (first | refine zF ?_ _ | refine zI ?_ | refine zE ?_ _)); exact BK222.out) hb)
             have n1_ := zC.mk (zL (by repeat (first | (with_reducible first | exact HB.out | apply zG | apply zA | apply zD | refine zH ?_ GE222.out) | exact HB.out)) hb)
             have n2_ := zC.mk (hbox)
             have n3_ := zC.mk ((by rw [hg]; exact (zM (by repeat (first | (with_reducible first | exact HB.out | apply zG | apply zA | apply zD | refine zH ?_ GE222.out) | exact HB.out))) : w.heap.size ≤ gb230))
             have n4_ := zC.mk ((by rw [hg]; exact (zM (by repeat (first | (with_reducible first | exact HB.out | apply zG | apply zA | apply zD | refine zH ?_ GE222.out) | exact HB.out))) : w.heap.size ≤ gb230))
             have n5_ := zC.mk ((by rw [hg]; exact Nat.ne_of_lt (zV (by (with_reducible repeat (first | refine zF ?_ _ | refine zI ?_ | refine zE ?_ _)); exact BK222.out)) : gb222 ≠ gb230))
             have n6_ := zC.mk ((by rw [hg]; exact Nat.ne_of_gt (zV (by (with_reducible repeat (first | refine zF ?_ _ | refine zI ?_ | refine zE ?_ _)); exact BK222.out)) : gb230 ≠ gb222))
             clear BK222
             clear HB
             have BK222 := n0_
             have HB := n1_
             have BK230 := n2_
             have GW230 := n3_
             have GE230 := n4_
             have NB222_230 := n5_
             have NB230_222 := n6_
             clear n0_ n1_ n2_ n3_ n4_ n5_ n6_
             clear hb hbox hg
             refine hK.out _ _ ⟨zB BK222.out 0, zB BK222.out 1, zB BK222.out 2, zB BK222.out 3, zB BK222.out 4⟩ (fun hHeld => ?_)
             clear hK K
             refine yA (a' := ?_) ?_ ?_
             rotate_left
             ·
              show Act.put _ (some 10) _ = _
              go_simp
              rfl
             exact yA (by first | (simp only [putAll, Act.put, List.setIfInBounds_toArray, List.set_cons_zero, List.set_cons_succ]; done) | (simp only [putAll, Act.put, List.setIfInBounds_toArray, List.set_cons_zero, List.set_cons_succ]; rfl)) (hJ15 (gb230) _ ⟨hHeld, (by (with_reducible repeat (first | refine zF ?_ _ | refine zI ?_ | refine zE ?_ _)); exact BK222.out), (by (with_reducible repeat (first | refine zF ?_ _ | refine zI ?_ | refine zE ?_ _)); exact BK230.out), GW230.out, GE230.out, NB222_230.out, NB230_222.out, (by repeat (first | (with_reducible first | exact HB.out | apply zG | apply zA | apply zD | refine zH ?_ GE222.out | refine zH ?_ GE230.out) | exact HB.out))⟩)
           ·
            skip
            rintro gb230 w15 ⟨hS_, h0_, h1_, h2_, h3_, h4_, h5_, h6_⟩
            have n0_ : zC (w15.heap[gb222]? = some (.cells #[.int .i64 a0_0, .int .i64 a0_1, .int .i64 a0_2, .int .i64 a0_3, .slice A0_4 l0_4.length c0_4] 32 (0, 0))) := ⟨h0_⟩
            have n1_ : zC (w15.heap[gb230]? = some (.cells #[.int .i64 0, .int .i64 0, .int .i64 0] 30 (0, 0))) := ⟨h1_⟩
            have n2_ : zC (w.heap.size ≤ gb230) := ⟨h2_⟩
            have n3_ : zC (w.heap.size ≤ gb230) := ⟨h3_⟩
            have n4_ : zC (gb222 ≠ gb230) := ⟨h4_⟩
            have n5_ : zC (gb230 ≠ gb222) := ⟨h5_⟩
            have n6_ : zC (Below w.heap.size w w15) := ⟨h6_⟩
            clear BK222
            clear HB
            clear h0_ h1_ h2_ h3_ h4_ h5_ h6_
            have BK222 := n0_
            have BK230 := n1_
            have GW230 := n2_
            have GE230 := n3_
            have NB222_230 := n4_
            have NB230_222 := n5_
            have HB := n6_
            clear n0_ n1_ n2_ n3_ n4_ n5_ n6_
            have hHeld : w15.cell? ⟨gb222, 0, none⟩ = some (.int .i64 a0_0) ∧ w15.cell? ⟨gb222, 1, none⟩ = some (.int .i64 a0_1) ∧ w15.cell? ⟨gb222, 2, none⟩ = some (.int .i64 a0_2) ∧ w15.cell? ⟨gb222, 3, none⟩ = some (.int .i64 a0_3) ∧ w15.cell? ⟨gb222, 4, none⟩ = some (.slice A0_4 l0_4.length c0_4) := hS_
            refine yA (a' := ?_) ?_ ?_
            rotate_left
            ·
             simp only [putAll, Act.put, List.setIfInBounds_toArray, List.set_cons_zero, List.set_cons_succ]
             rfl
            refine one_ (i := 2) (N := some 17) #[true, true, true, false, false, false, false, false, false, false, false, false, false, false, false, true, false, false] rfl rfl (yB HT_.out (by kernel_rfl)) (by decide) (fun K hK => ?_)
            refine yD Try.func53 (by kernel_rfl) rfl #[.int .i64 a1, .int .i64 1, .int .i64 1000] (by rfl) rfl rfl (by (try simp only [List.map_toArray, List.map_cons, List.map_nil]); first | done | rfl) ?_
            with_reducible refine (xH.calls a1 1 1000 true _ A5.out).mono ?_
            rintro e w' ⟨rfl, ⟨nd, rfl⟩⟩
            refine ⟨_, rfl, ?_⟩
            refine hK.out _ _ ⟨zB BK222.out 0, zB BK222.out 1, zB BK222.out 2, zB BK222.out 3, zB BK222.out 4⟩ (fun hHeld => ?_)
            clear hK K
            refine yA (a' := ?_) ?_ ?_
            rotate_left
            ·
             show Act.put _ (some 17) _ = _
             go_simp
             rfl
            refine zR (i := 3) (N := some 18) (v := ?_) (a' := ?_) #[true, true, true, true, false, false, false, false, false, false, false, false, false, false, false, true, false, false] rfl rfl (zO HT_.out (by kernel_rfl)) (fun _ _ _ h => h) (Or.inl ⟨by rfl, ?_⟩) ?_ ?_
            rotate_left
            ·
             intro w'
             go_simp
             with_reducible rfl
            rotate_left
            ·
             go_simp
             rfl
            refine zR (i := 4) (N := some 19) (v := ?_) (a' := ?_) #[true, true, true, true, true, false, false, false, false, false, false, false, false, false, false, true, false, false] rfl rfl (zO HT_.out (by kernel_rfl)) (fun _ _ _ h => h) (Or.inl ⟨by rfl, ?_⟩) ?_ ?_
            rotate_left
            ·
             intro w'
             go_simp
             with_reducible rfl
            rotate_left
            ·
             go_simp
             rfl
            exact yA (by first | (simp only [putAll, Act.put, List.setIfInBounds_toArray, List.set_cons_zero, List.set_cons_succ]; done) | (simp only [putAll, Act.put, List.setIfInBounds_toArray, List.set_cons_zero, List.set_cons_succ]; rfl)) (hJ2_15 (gb230) _ ⟨hHeld, (by (with_reducible repeat (first | refine zF ?_ _ | refine zI ?_ | refine zE ?_ _)); exact BK222.out), (by (with_reducible repeat (first | refine zF ?_ _ | refine zI ?_ | refine zE ?_ _)); exact BK230.out), GW230.out, GE230.out, NB222_230.out, NB230_222.out, (by repeat (first | (with_reducible first | exact HB.out | apply zG | apply zA | apply zD | refine zH ?_ GE222.out | refine zH ?_ GE230.out) | exact HB.out))⟩)
          ·
           skip
           rintro _ w14 ⟨hS_, h0_, h1_⟩
           have n0_ : zC (w14.heap[gb222]? = some (.cells #[.int .i64 a0_0, .int .i64 a0_1, .int .i64 a0_2, .int .i64 a0_3, .slice A0_4 l0_4.length c0_4] 32 (0, 0))) := ⟨h0_⟩
           have n1_ : zC (Below w.heap.size w w14) := ⟨h1_⟩
           clear BK222
           clear HB
           clear h0_ h1_
           have BK222 := n0_
           have HB := n1_
           clear n0_ n1_
           have hHeld : w14.cell? ⟨gb222, 0, none⟩ = some (.int .i64 a0_0) ∧ w14.cell? ⟨gb222, 1, none⟩ = some (.int .i64 a0_1) ∧ w14.cell? ⟨gb222, 2, none⟩ = some (.int .i64 a0_2) ∧ w14.cell? ⟨gb222, 3, none⟩ = some (.int .i64 a0_3) ∧ w14.cell? ⟨gb222, 4, none⟩ = some (.slice A0_4 l0_4.length c0_4) := hS_
           refine yA (a' := ?_) ?_ ?_
           rotate_left
           ·
            simp only [putAll, Act.put, List.setIfInBounds_toArray, List.set_cons_zero, List.set_cons_succ]
            rfl
           refine two_ (i := 5) (j := 15) (Ni := some 20) (Nj := some 10) #[true, true, true, true, true, true, false, false, false, false, false, false, false, false, false, false, false, false] #[true, true, true, true, true, false, false, false, false, false, false, false, false, false, false, true, false, false] rfl rfl rfl rfl (two_of HT_.out (by kernel_rfl)) (by decide) (by decide) (fun K hK => ?_) (fun K hK => ?_)
           ·
            skip
            refine yD Try.func53 (by kernel_rfl) rfl #[.int .i64 a2, .int .i64 1, .int .i64 1000] (by rfl) rfl rfl (by (try simp only [List.map_toArray, List.map_cons, List.map_nil]); first | done | rfl) ?_
            with_reducible refine (xH.calls a2 1 1000 true _ A7.out).mono ?_
            rintro e w' ⟨rfl, ⟨nd, rfl⟩⟩
            refine ⟨_, rfl, ?_⟩
            refine hK.out _ _ ⟨zB BK222.out 0, zB BK222.out 1, zB BK222.out 2, zB BK222.out 3, zB BK222.out 4⟩ (fun hHeld => ?_)
            clear hK K
            refine yA (a' := ?_) ?_ ?_
            rotate_left
            ·
             show Act.put _ (some 20) _ = _
             go_simp
             rfl
            refine zR (i := 6) (N := some 21) (v := ?_) (a' := ?_) #[true, true, true, true, true, true, true, false, false, false, false, false, false, false, false, false, false, false] rfl rfl (zO HT_.out (by kernel_rfl)) (fun _ _ _ h => h) (Or.inl ⟨by rfl, ?_⟩) ?_ ?_
            rotate_left
            ·
             intro w'
             go_simp
             with_reducible rfl
            rotate_left
            ·
             go_simp
             rfl
            refine zR (i := 7) (N := some 22) (v := ?_) (a' := ?_) #[true, true, true, true, true, true, true, true, false, false, false, false, false, false, false, false, false, false] rfl rfl (zO HT_.out (by kernel_rfl)) (fun _ _ _ h => h) (Or.inl ⟨by rfl, ?_⟩) ?_ ?_
            rotate_left
            ·
             intro w'
             go_simp
             with_reducible rfl
            rotate_left
            ·
             go_simp
             rfl
            refine zR (i := 8) (N := some 23) (v := ?_) (a' := ?_) #[true, true, true, true, true, true, true, true, true, false, false, false, false, false, false, false, false, false] rfl rfl (zO HT_.out (by kernel_rfl)) (fun _ _ _ h => h) (Or.inl ⟨by rfl, ?_⟩) ?_ ?_
            rotate_left
            ·
             intro w'
             go_simp
             with_reducible rfl
            rotate_left
            ·
             go_simp
             rfl
            exact yA (by first | (simp only [putAll, Act.put, List.setIfInBounds_toArray, List.set_cons_zero, List.set_cons_succ]; done) | (simp only [putAll, Act.put, List.setIfInBounds_toArray, List.set_cons_zero, List.set_cons_succ]; rfl)) (hJ2_5 () _ ⟨hHeld, (by (with_reducible repeat (first | refine zF ?_ _ | refine zI ?_ | refine zE ?_ _)); exact BK222.out), (by repeat (first | (with_reducible first | exact HB.out | apply zG | apply zA | apply zD | refine zH ?_ GE222.out) | exact HB.out))⟩)
           ·
            skip
            refine box_step ?hg (N := 10) ?hd (cs := #[.int .i64 0, .int .i64 0, .int .i64 0]) (t := 30) ?hr ?_; (case hd => rfl); (case hg => rfl); (case hr => first | (go_simp; done) | (go_simp; rfl))
            intro gb230 hg w15 hbox hb
            have n0_ := zC.mk (zK (g := gb222) (o := .cells #[.int .i64 a0_0, .int .i64 a0_1, .int .i64 a0_2, .int .i64 a0_3, .slice A0_4 l0_4.length c0_4] 32 (0, 0)) (by (with_reducible repeat (first | refine zF ?_ _ | refine zI ?_ | refine zE ?_ _)); exact BK222.out) hb)
            have n1_ := zC.mk (zL (by repeat (first | (with_reducible first | exact HB.out | apply zG | apply zA | apply zD | refine zH ?_ GE222.out) | exact HB.out)) hb)
            have n2_ := zC.mk (hbox)
            have n3_ := zC.mk ((by rw [hg]; exact (zM (by repeat (first | (with_reducible first | exact HB.out | apply zG | apply zA | apply zD | refine zH ?_ GE222.out) | exact HB.out))) : w.heap.size ≤ gb230))
            have n4_ := zC.mk ((by rw [hg]; exact (zM (by repeat (first | (with_reducible first | exact HB.out | apply zG | apply zA | apply zD | refine zH ?_ GE222.out) | exact HB.out))) : w.heap.size ≤ gb230))
            have n5_ := zC.mk ((by rw [hg]; exact Nat.ne_of_lt (zV (by (with_reducible repeat (first | refine zF ?_ _ | refine zI ?_ | refine zE ?_ _)); exact BK222.out)) : gb222 ≠ gb230))
            have n6_ := zC.mk ((by rw [hg]; exact Nat.ne_of_gt (zV (by (with_reducible repeat (first | refine zF ?_ _ | refine zI ?_ | refine zE ?_ _)); exact BK222.out)) : gb230 ≠ gb222))
            clear BK222
            clear HB
            have BK222 := n0_
            have HB := n1_
            have BK230 := n2_
            have GW230 := n3_
            have GE230 := n4_
            have NB222_230 := n5_
            have NB230_222 := n6_
            clear n0_ n1_ n2_ n3_ n4_ n5_ n6_
            clear hb hbox hg
            refine hK.out _ _ ⟨zB BK222.out 0, zB BK222.out 1, zB BK222.out 2, zB BK222.out 3, zB BK222.out 4⟩ (fun hHeld => ?_)
            clear hK K
            refine yA (a' := ?_) ?_ ?_
            rotate_left
            ·
             show Act.put _ (some 10) _ = _
             go_simp
             rfl
            exact yA (by first | (simp only [putAll, Act.put, List.setIfInBounds_toArray, List.set_cons_zero, List.set_cons_succ]; done) | (simp only [putAll, Act.put, List.setIfInBounds_toArray, List.set_cons_zero, List.set_cons_succ]; rfl)) (hJ2_15 (gb230) _ ⟨hHeld, (by (with_reducible repeat (first | refine zF ?_ _ | refine zI ?_ | refine zE ?_ _)); exact BK222.out), (by (with_reducible repeat (first | refine zF ?_ _ | refine zI ?_ | refine zE ?_ _)); exact BK230.out), GW230.out, GE230.out, NB222_230.out, NB230_222.out, (by repeat (first | (with_reducible first | exact HB.out | apply zG | apply zA | apply zD | refine zH ?_ GE222.out | refine zH ?_ GE230.out) | exact HB.out))⟩)
         ·
          skip
          rintro gb230 w15 ⟨hS_, h0_, h1_, h2_, h3_, h4_, h5_, h6_⟩
          have n0_ : zC (w15.heap[gb222]? = some (.cells #[.int .i64 a0_0, .int .i64 a0_1, .int .i64 a0_2, .int .i64 a0_3, .slice A0_4 l0_4.length c0_4] 32 (0, 0))) := ⟨h0_⟩
          have n1_ : zC (w15.heap[gb230]? = some (.cells #[.int .i64 0, .int .i64 0, .int .i64 0] 30 (0, 0))) := ⟨h1_⟩
          have n2_ : zC (w.heap.size ≤ gb230) := ⟨h2_⟩
          have n3_ : zC (w.heap.size ≤ gb230) := ⟨h3_⟩
          have n4_ : zC (gb222 ≠ gb230) := ⟨h4_⟩
          have n5_ : zC (gb230 ≠ gb222) := ⟨h5_⟩
          have n6_ : zC (Below w.heap.size w w15) := ⟨h6_⟩
          clear BK222
          clear HB
          clear h0_ h1_ h2_ h3_ h4_ h5_ h6_
          have BK222 := n0_
          have BK230 := n1_
          have GW230 := n2_
          have GE230 := n3_
          have NB222_230 := n4_
          have NB230_222 := n5_
          have HB := n6_
          clear n0_ n1_ n2_ n3_ n4_ n5_ n6_
          have hHeld : w15.cell? ⟨gb222, 0, none⟩ = some (.int .i64 a0_0) ∧ w15.cell? ⟨gb222, 1, none⟩ = some (.int .i64 a0_1) ∧ w15.cell? ⟨gb222, 2, none⟩ = some (.int .i64 a0_2) ∧ w15.cell? ⟨gb222, 3, none⟩ = some (.int .i64 a0_3) ∧ w15.cell? ⟨gb222, 4, none⟩ = some (.slice A0_4 l0_4.length c0_4) := hS_
          refine yA (a' := ?_) ?_ ?_
          rotate_left
          ·
           simp only [putAll, Act.put, List.setIfInBounds_toArray, List.set_cons_zero, List.set_cons_succ]
           rfl
          refine one_ (i := 5) (N := some 20) #[true, true, true, true, true, true, false, false, false, false, false, false, false, false, false, true, false, false] rfl rfl (yB HT_.out (by kernel_rfl)) (by decide) (fun K hK => ?_)
          refine yD Try.func53 (by kernel_rfl) rfl #[.int .i64 a2, .int .i64 1, .int .i64 1000] (by rfl) rfl rfl (by (try simp only [List.map_toArray, List.map_cons, List.map_nil]); first | done | rfl) ?_
          with_reducible refine (xH.calls a2 1 1000 true _ A7.out).mono ?_
          rintro e w' ⟨rfl, ⟨nd, rfl⟩⟩
          refine ⟨_, rfl, ?_⟩
          refine hK.out _ _ ⟨zB BK222.out 0, zB BK222.out 1, zB BK222.out 2, zB BK222.out 3, zB BK222.out 4⟩ (fun hHeld => ?_)
          clear hK K
          refine yA (a' := ?_) ?_ ?_
          rotate_left
          ·
           show Act.put _ (some 20) _ = _
           go_simp
           rfl
          refine zR (i := 6) (N := some 21) (v := ?_) (a' := ?_) #[true, true, true, true, true, true, true, false, false, false, false, false, false, false, false, true, false, false] rfl rfl (zO HT_.out (by kernel_rfl)) (fun _ _ _ h => h) (Or.inl ⟨by rfl, ?_⟩) ?_ ?_
          rotate_left
          ·
           intro w'
           go_simp
           with_reducible rfl
          rotate_left
          ·
           go_simp
           rfl
          refine zR (i := 7) (N := some 22) (v := ?_) (a' := ?_) #[true, true, true, true, true, true, true, true, false, false, false, false, false, false, false, true, false, false] rfl rfl (zO HT_.out (by kernel_rfl)) (fun _ _ _ h => h) (Or.inl ⟨by rfl, ?_⟩) ?_ ?_
          rotate_left
          ·
           intro w'
           go_simp
           with_reducible rfl
          rotate_left
          ·
           go_simp
           rfl
          refine zR (i := 8) (N := some 23) (v := ?_) (a' := ?_) #[true, true, true, true, true, true, true, true, true, false, false, false, false, false, false, true, false, false] rfl rfl (zO HT_.out (by kernel_rfl)) (fun _ _ _ h => h) (Or.inl ⟨by rfl, ?_⟩) ?_ ?_
          rotate_left
          ·
           intro w'
           go_simp
           with_reducible rfl
          rotate_left
          ·
           go_simp
           rfl
          exact yA (by first | (simp only [putAll, Act.put, List.setIfInBounds_toArray, List.set_cons_zero, List.set_cons_succ]; done) | (simp only [putAll, Act.put, List.setIfInBounds_toArray, List.set_cons_zero, List.set_cons_succ]; rfl)) (hJ2_5_15 (gb230) _ ⟨hHeld, (by (with_reducible repeat (first | refine zF ?_ _ | refine zI ?_ | refine zE ?_ _)); exact BK222.out), (by (with_reducible repeat (first | refine zF ?_ _ | refine zI ?_ | refine zE ?_ _)); exact BK230.out), GW230.out, GE230.out, NB222_230.out, NB230_222.out, (by repeat (first | (with_reducible first | exact HB.out | apply zG | apply zA | apply zD | refine zH ?_ GE222.out | refine zH ?_ GE230.out) | exact HB.out))⟩)
        ·
         skip
         rintro _ w14 ⟨hS_, h0_, h1_⟩
         have n0_ : zC (w14.heap[gb222]? = some (.cells #[.int .i64 a0_0, .int .i64 a0_1, .int .i64 a0_2, .int .i64 a0_3, .slice A0_4 l0_4.length c0_4] 32 (0, 0))) := ⟨h0_⟩
         have n1_ : zC (Below w.heap.size w w14) := ⟨h1_⟩
         clear BK222
         clear HB
         clear h0_ h1_
         have BK222 := n0_
         have HB := n1_
         clear n0_ n1_
         have hHeld : w14.cell? ⟨gb222, 0, none⟩ = some (.int .i64 a0_0) ∧ w14.cell? ⟨gb222, 1, none⟩ = some (.int .i64 a0_1) ∧ w14.cell? ⟨gb222, 2, none⟩ = some (.int .i64 a0_2) ∧ w14.cell? ⟨gb222, 3, none⟩ = some (.int .i64 a0_3) ∧ w14.cell? ⟨gb222, 4, none⟩ = some (.slice A0_4 l0_4.length c0_4) := hS_
         refine yA (a' := ?_) ?_ ?_
         rotate_left
         ·
          simp only [putAll, Act.put, List.setIfInBounds_toArray, List.set_cons_zero, List.set_cons_succ]
          rfl
         refine two_ (i := 9) (j := 15) (Ni := some 24) (Nj := some 10) #[true, true, true, true, true, true, true, true, true, true, false, false, false, false, false, false, false, false] #[true, true, true, true, true, true, true, true, true, false, false, false, false, false, false, true, false, false] rfl rfl rfl rfl (two_of HT_.out (by kernel_rfl)) (by decide) (by decide) (fun K hK => ?_) (fun K hK => ?_)
         ·
          skip
          refine yD Try.func53 (by kernel_rfl) rfl #[.int .i64 a3, .int .i64 1, .int .i64 100] (by rfl) rfl rfl (by (try simp only [List.map_toArray, List.map_cons, List.map_nil]); first | done | rfl) ?_
          with_reducible refine (xH.calls a3 1 100 t225 _ A9.out).mono ?_
          rintro e w' ⟨rfl, ⟨nd, rfl⟩⟩
          refine ⟨_, rfl, ?_⟩
          refine hK.out _ _ ⟨zB BK222.out 0, zB BK222.out 1, zB BK222.out 2, zB BK222.out 3, zB BK222.out 4⟩ (fun hHeld => ?_)
          clear hK K
          refine yA (a' := ?_) ?_ ?_
          rotate_left
          ·
           show Act.put _ (some 24) _ = _
           go_simp
           rfl
          refine zR (i := 10) (N := some 25) (v := ?_) (a' := ?_) #[true, true, true, true, true, true, true, true, true, true, true, false, false, false, false, false, false, false] rfl rfl (zO HT_.out (by kernel_rfl)) (fun _ _ _ h => h) (Or.inl ⟨by rfl, ?_⟩) ?_ ?_
          rotate_left
          ·
           intro w'
           go_simp
           with_reducible rfl
          rotate_left
          ·
           go_simp
           rfl
          exact yA (by first | (simp only [putAll, Act.put, List.setIfInBounds_toArray, List.set_cons_zero, List.set_cons_succ]; done) | (simp only [putAll, Act.put, List.setIfInBounds_toArray, List.set_cons_zero, List.set_cons_succ]; rfl)) (hJ2_5_9 () _ ⟨hHeld, (by (with_reducible repeat (first | refine zF ?_ _ | refine zI ?_ | refine zE ?_ _)); exact BK222.out), (by repeat (first | (with_reducible first | exact HB.out | apply zG | apply zA | apply zD | refine zH ?_ GE222.out) | exact HB.out))⟩)
         ·
          skip
          refine box_step ?hg (N := 10) ?hd (cs := #[.int .i64 0, .int .i64 0, .int .i64 0]) (t := 30) ?hr ?_; (case hd => rfl); (case hg => rfl); (case hr => first | (go_simp; done) | (go_simp; rfl))
          intro gb230 hg w15 hbox hb
          have n0_ := zC.mk (zK (g := gb222) (o := .cells #[.int .i64 a0_0, .int .i64 a0_1, .int .i64 a0_2, .int .i64 a0_3, .slice A0_4 l0_4.length c0_4] 32 (0, 0)) (by (with_reducible repeat (first | refine zF ?_ _ | refine zI ?_ | refine zE ?_ _)); exact BK222.out) hb)
          have n1_ := zC.mk (zL (by repeat (first | (with_reducible first | exact HB.out | apply zG | apply zA | apply zD | refine zH ?_ GE222.out) | exact HB.out)) hb)
          have n2_ := zC.mk (hbox)
          have n3_ := zC.mk ((by rw [hg]; exact (zM (by repeat (first | (with_reducible first | exact HB.out | apply zG | apply zA | apply zD | refine zH ?_ GE222.out) | exact HB.out))) : w.heap.size ≤ gb230))
          have n4_ := zC.mk ((by rw [hg]; exact (zM (by repeat (first | (with_reducible first | exact HB.out | apply zG | apply zA | apply zD | refine zH ?_ GE222.out) | exact HB.out))) : w.heap.size ≤ gb230))
          have n5_ := zC.mk ((by rw [hg]; exact Nat.ne_of_lt (zV (by (with_reducible repeat (first | refine zF ?_ _ | refine zI ?_ | refine zE ?_ _)); exact BK222.out)) : gb222 ≠ gb230))
          have n6_ := zC.mk ((by rw [hg]; exact Nat.ne_of_gt (zV (by (with_reducible repeat (first | refine zF ?_ _ | refine zI ?_ | refine zE ?_ _)); exact BK222.out)) : gb230 ≠ gb222))
          clear BK222
          clear HB
          have BK222 := n0_
          have HB := n1_
          have BK230 := n2_
          have GW230 := n3_
          have GE230 := n4_
          have NB222_230 := n5_
          have NB230_222 := n6_
          clear n0_ n1_ n2_ n3_ n4_ n5_ n6_
          clear hb hbox hg
          refine hK.out _ _ ⟨zB BK222.out 0, zB BK222.out 1, zB BK222.out 2, zB BK222.out 3, zB BK222.out 4⟩ (fun hHeld => ?_)
          clear hK K
          refine yA (a' := ?_) ?_ ?_
          rotate_left
          ·
           show Act.put _ (some 10) _ = _
           go_simp
           rfl
          exact yA (by first | (simp only [putAll, Act.put, List.setIfInBounds_toArray, List.set_cons_zero, List.set_cons_succ]; done) | (simp only [putAll, Act.put, List.setIfInBounds_toArray, List.set_cons_zero, List.set_cons_succ]; rfl)) (hJ2_5_15 (gb230) _ ⟨hHeld, (by (with_reducible repeat (first | refine zF ?_ _ | refine zI ?_ | refine zE ?_ _)); exact BK222.out), (by (with_reducible repeat (first | refine zF ?_ _ | refine zI ?_ | refine zE ?_ _)); exact BK230.out), GW230.out, GE230.out, NB222_230.out, NB230_222.out, (by repeat (first | (with_reducible first | exact HB.out | apply zG | apply zA | apply zD | refine zH ?_ GE222.out | refine zH ?_ GE230.out) | exact HB.out))⟩)
       ·
        skip
        rintro gb230 w15 ⟨hS_, h0_, h1_, h2_, h3_, h4_, h5_, h6_⟩
        have n0_ : zC (w15.heap[gb222]? = some (.cells #[.int .i64 a0_0, .int .i64 a0_1, .int .i64 a0_2, .int .i64 a0_3, .slice A0_4 l0_4.length c0_4] 32 (0, 0))) := ⟨h0_⟩
        have n1_ : zC (w15.heap[gb230]? = some (.cells #[.int .i64 0, .int .i64 0, .int .i64 0] 30 (0, 0))) := ⟨h1_⟩
        have n2_ : zC (w.heap.size ≤ gb230) := ⟨h2_⟩
        have n3_ : zC (w.heap.size ≤ gb230) := ⟨h3_⟩
        have n4_ : zC (gb222 ≠ gb230) := ⟨h4_⟩
        have n5_ : zC (gb230 ≠ gb222) := ⟨h5_⟩
        have n6_ : zC (Below w.heap.size w w15) := ⟨h6_⟩
        clear BK222
        clear HB
        clear h0_ h1_ h2_ h3_ h4_ h5_ h6_
        have BK222 := n0_
        have BK230 := n1_
        have GW230 := n2_
        have GE230 := n3_
        have NB222_230 := n4_
        have NB230_222 := n5_
        have HB := n6_
        clear n0_ n1_ n2_ n3_ n4_ n5_ n6_
        have hHeld : w15.cell? ⟨gb222, 0, none⟩ = some (.int .i64 a0_0) ∧ w15.cell? ⟨gb222, 1, none⟩ = some (.int .i64 a0_1) ∧ w15.cell? ⟨gb222, 2, none⟩ = some (.int .i64 a0_2) ∧ w15.cell? ⟨gb222, 3, none⟩ = some (.int .i64 a0_3) ∧ w15.cell? ⟨gb222, 4, none⟩ = some (.slice A0_4 l0_4.length c0_4) := hS_
        refine yA (a' := ?_) ?_ ?_
        rotate_left
        ·
         simp only [putAll, Act.put, List.setIfInBounds_toArray, List.set_cons_zero, List.set_cons_succ]
         rfl
        refine one_ (i := 9) (N := some 24) #[true, true, true, true, true, true, true, true, true, true, false, false, false, false, false, true, false, false] rfl rfl (yB HT_.out (by kernel_rfl)) (by decide) (fun K hK => ?_)
        refine yD Try.func53 (by kernel_rfl) rfl #[.int .i64 a3, .int .i64 1, .int .i64 100] (by rfl) rfl rfl (by (try simp only [List.map_toArray, List.map_cons, List.map_nil]); first | done | rfl) ?_
        with_reducible refine (xH.calls a3 1 100 t225 _ A9.out).mono ?_
        rintro e w' ⟨rfl, ⟨nd, rfl⟩⟩
        refine ⟨_, rfl, ?_⟩
        refine hK.out _ _ ⟨zB BK222.out 0, zB BK222.out 1, zB BK222.out 2, zB BK222.out 3, zB BK222.out 4⟩ (fun hHeld => ?_)
        clear hK K
        refine yA (a' := ?_) ?_ ?_
        rotate_left
        ·
         show Act.put _ (some 24) _ = _
         go_simp
         rfl
        refine zR (i := 10) (N := some 25) (v := ?_) (a' := ?_) #[true, true, true, true, true, true, true, true, true, true, true, false, false, false, false, true, false, false] rfl rfl (zO HT_.out (by kernel_rfl)) (fun _ _ _ h => h) (Or.inl ⟨by rfl, ?_⟩) ?_ ?_
        rotate_left
        ·
         intro w'
         go_simp
         with_reducible rfl
        rotate_left
        ·
         go_simp
         rfl
        exact yA (by first | (simp only [putAll, Act.put, List.setIfInBounds_toArray, List.set_cons_zero, List.set_cons_succ]; done) | (simp only [putAll, Act.put, List.setIfInBounds_toArray, List.set_cons_zero, List.set_cons_succ]; rfl)) (hJ2_5_9_15 (gb230) _ ⟨hHeld, (by (with_reducible repeat (first | refine zF ?_ _ | refine zI ?_ | refine zE ?_ _)); exact BK222.out), (by (with_reducible repeat (first | refine zF ?_ _ | refine zI ?_ | refine zE ?_ _)); exact BK230.out), GW230.out, GE230.out, NB222_230.out, NB230_222.out, (by repeat (first | (with_reducible first | exact HB.out | apply zG | apply zA | apply zD | refine zH ?_ GE222.out | refine zH ?_ GE230.out) | exact HB.out))⟩)
      ·
       skip
       rintro _ w14 ⟨hS_, h0_, h1_⟩
       have n0_ : zC (w14.heap[gb222]? = some (.cells #[.int .i64 a0_0, .int .i64 a0_1, .int .i64 a0_2, .int .i64 a0_3, .slice A0_4 l0_4.length c0_4] 32 (0, 0))) := ⟨h0_⟩
       have n1_ : zC (Below w.heap.size w w14) := ⟨h1_⟩
       clear BK222
       clear HB
       clear h0_ h1_
       have BK222 := n0_
       have HB := n1_
       clear n0_ n1_
       have hHeld : w14.cell? ⟨gb222, 0, none⟩ = some (.int .i64 a0_0) ∧ w14.cell? ⟨gb222, 1, none⟩ = some (.int .i64 a0_1) ∧ w14.cell? ⟨gb222, 2, none⟩ = some (.int .i64 a0_2) ∧ w14.cell? ⟨gb222, 3, none⟩ = some (.int .i64 a0_3) ∧ w14.cell? ⟨gb222, 4, none⟩ = some (.slice A0_4 l0_4.length c0_4) := hS_
       refine yA (a' := ?_) ?_ ?_
       rotate_left
       ·
        simp only [putAll, Act.put, List.setIfInBounds_toArray, List.set_cons_zero, List.set_cons_succ]
        rfl
       refine two_ (i := 11) (j := 15) (Ni := some 26) (Nj := some 10) #[true, true, true, true, true, true, true, true, true, true, true, true, false, false, false, false, false, false] #[true, true, true, true, true, true, true, true, true, true, true, false, false, false, false, true, false, false] rfl rfl rfl rfl (two_of HT_.out (by kernel_rfl)) (by decide) (by decide) (fun K hK => ?_) (fun K hK => ?_)
       ·
        skip
        refine yD Try.func52 (by kernel_rfl) rfl #[.agg #[.int .i64 a0_0, .int .i64 a0_1, .int .i64 a0_2, .int .i64 a0_3, .slice A0_4 l0_4.length c0_4], .bool t225] (by rfl) rfl rfl (by (try simp only [List.map_toArray, List.map_cons, List.map_nil]); first | done | rfl) ?_
        with_reducible refine (yQ.calls k a0_0 a0_1 a0_2 a0_3 _ _ l0_4 t225 t226 t227 t228 t229 _ ?side1 ?side2 A10.out).mono ?_
        (case side1 => repeat (first | exact (Kd.C_below HR0_4.out HB.out) | (with_reducible refine Kd.C_alloc ?_ _) | (with_reducible refine Kd.C_drewN ?_ _) | (with_reducible refine Kd.C_drew ?_)))
        (case side2 => exact HC0_4.out)
        rintro e w15 ⟨rfl, hb⟩
        refine ⟨_, rfl, ?_⟩
        have n0_ := zC.mk (zK (g := gb222) (o := .cells #[.int .i64 a0_0, .int .i64 a0_1, .int .i64 a0_2, .int .i64 a0_3, .slice A0_4 l0_4.length c0_4] 32 (0, 0)) (by (with_reducible repeat (first | refine zF ?_ _ | refine zI ?_ | refine zE ?_ _)); exact BK222.out) hb)
        have n1_ := zC.mk (zL (by repeat (first | (with_reducible first | exact HB.out | apply zG | apply zA | apply zD | refine zH ?_ GE222.out) | exact HB.out)) hb)
        clear BK222
        clear HB
        have BK222 := n0_
        have HB := n1_
        clear n0_ n1_
        (try clear hb)
        refine hK.out _ _ ⟨zB BK222.out 0, zB BK222.out 1, zB BK222.out 2, zB BK222.out 3, zB BK222.out 4⟩ (fun hHeld => ?_)
        clear hK K
        refine yA (a' := ?_) ?_ ?_
        rotate_left
        ·
         show Act.put _ (some 26) _ = _
         go_simp
         rfl
        refine zR (i := 12) (N := some 14) (v := ?_) (a' := ?_) #[true, true, true, true, true, true, true, true, true, true, true, true, true, false, false, false, false, false] rfl rfl (zO HT_.out (by kernel_rfl)) (fun _ _ _ h => h) (Or.inl ⟨by rfl, ?_⟩) ?_ ?_
        rotate_left
        ·
         intro w'
         go_simp
         with_reducible rfl
        rotate_left
        ·
         go_simp
         rfl
        refine zR (i := 13) (N := some 27) (v := ?_) (a' := ?_) #[true, true, true, true, true, true, true, true, true, true, true, true, true, true, false, false, false, false] rfl rfl (zO HT_.out (by kernel_rfl)) (fun _ _ _ h => h) (Or.inl ⟨by rfl, ?_⟩) ?_ ?_
        rotate_left
        ·
         intro w'
         go_simp
         with_reducible rfl
        rotate_left
        ·
         go_simp
         rfl
        refine zR (i := 14) (N := some 28) (v := ?_) (a' := ?_) #[true, true, true, true, true, true, true, true, true, true, true, true, true, true, true, false, false, false] rfl rfl (zO HT_.out (by kernel_rfl)) (fun _ _ _ h => h) (Or.inl ⟨by rfl, ?_⟩) ?_ ?_
        rotate_left
        ·
         intro w'
         go_simp
         with_reducible rfl
        rotate_left
        ·
         go_simp
         rfl
        exact yA (by first | (simp only [putAll, Act.put, List.setIfInBounds_toArray, List.set_cons_zero, List.set_cons_succ]; done) | (simp only [putAll, Act.put, List.setIfInBounds_toArray, List.set_cons_zero, List.set_cons_succ]; rfl)) (hJ2_5_9_11 () _ ⟨hHeld, (by (with_reducible repeat (first | refine zF ?_ _ | refine zI ?_ | refine zE ?_ _)); exact BK222.out), (by repeat (first | (with_reducible first | exact HB.out | apply zG | apply zA | apply zD | refine zH ?_ GE222.out) | exact HB.out))⟩)
       ·
        skip
        refine box_step ?hg (N := 10) ?hd (cs := #[.int .i64 0, .int .i64 0, .int .i64 0]) (t := 30) ?hr ?_; (case hd => rfl); (case hg => rfl); (case hr => first | (go_simp; done) | (go_simp; rfl))
        intro gb230 hg w15 hbox hb
        have n0_ := zC.mk (zK (g := gb222) (o := .cells #[.int .i64 a0_0, .int .i64 a0_1, .int .i64 a0_2, .int .i64 a0_3, .slice A0_4 l0_4.length c0_4] 32 (0, 0)) (by (with_reducible repeat (first | refine zF ?_ _ | refine zI ?_ | refine zE ?_ _)); exact BK222.out) hb)
        have n1_ := zC.mk (zL (by repeat (first | (with_reducible first | exact HB.out | apply zG | apply zA | apply zD | refine zH ?_ GE222.out) | exact HB.out)) hb)
        have n2_ := zC.mk (hbox)
        have n3_ := zC.mk ((by rw [hg]; exact (zM (by repeat (first | (with_reducible first | exact HB.out | apply zG | apply zA | apply zD | refine zH ?_ GE222.out) | exact HB.out))) : w.heap.size ≤ gb230))
        have n4_ := zC.mk ((by rw [hg]; exact (zM (by repeat (first | (with_reducible first | exact HB.out | apply zG | apply zA | apply zD | refine zH ?_ GE222.out) | exact HB.out))) : w.heap.size ≤ gb230))
        have n5_ := zC.mk ((by rw [hg]; exact Nat.ne_of_lt (zV (by (with_reducible repeat (first | refine zF ?_ _ | refine zI ?_ | refine zE ?_ _)); exact BK222.out)) : gb222 ≠ gb230))
        have n6_ := zC.mk ((by rw [hg]; exact Nat.ne_of_gt (zV (by (with_reducible repeat (first | refine zF ?_ _ | refine zI ?_ | refine zE ?_ _)); exact BK222.out)) : gb230 ≠ gb222))
        clear BK222
        clear HB
        have BK222 := n0_
        have HB := n1_
        have BK230 := n2_
        have GW230 := n3_
        have GE230 := n4_
        have NB222_230 := n5_
        have NB230_222 := n6_
        clear n0_ n1_ n2_ n3_ n4_ n5_ n6_
        clear hb hbox hg
        refine hK.out _ _ ⟨zB BK222.out 0, zB BK222.out 1, zB BK222.out 2, zB BK222.out 3, zB BK222.out 4⟩ (fun hHeld => ?_)
        clear hK K
        refine yA (a' := ?_) ?_ ?_
        rotate_left
        ·
         show Act.put _ (some 10) _ = _
         go_simp
         rfl
        exact yA (by first | (simp only [putAll, Act.put, List.setIfInBounds_toArray, List.set_cons_zero, List.set_cons_succ]; done) | (simp only [putAll, Act.put, List.setIfInBounds_toArray, List.set_cons_zero, List.set_cons_succ]; rfl)) (hJ2_5_9_15 (gb230) _ ⟨hHeld, (by (with_reducible repeat (first | refine zF ?_ _ | refine zI ?_ | refine zE ?_ _)); exact BK222.out), (by (with_reducible repeat (first | refine zF ?_ _ | refine zI ?_ | refine zE ?_ _)); exact BK230.out), GW230.out, GE230.out, NB222_230.out, NB230_222.out, (by repeat (first | (with_reducible first | exact HB.out | apply zG | apply zA | apply zD | refine zH ?_ GE222.out | refine zH ?_ GE230.out) | exact HB.out))⟩)
     ·
      skip
      rintro gb230 w15 ⟨hS_, h0_, h1_, h2_, h3_, h4_, h5_, h6_⟩
      have n0_ : zC (w15.heap[gb222]? = some (.cells #[.int .i64 a0_0, .int .i64 a0_1, .int .i64 a0_2, .int .i64 a0_3, .slice A0_4 l0_4.length c0_4] 32 (0, 0))) := ⟨h0_⟩
      have n1_ : zC (w15.heap[gb230]? = some (.cells #[.int .i64 0, .int .i64 0, .int .i64 0] 30 (0, 0))) := ⟨h1_⟩
      have n2_ : zC (w.heap.size ≤ gb230) := ⟨h2_⟩
      have n3_ : zC (w.heap.size ≤ gb230) := ⟨h3_⟩
      have n4_ : zC (gb222 ≠ gb230) := ⟨h4_⟩
      have n5_ : zC (gb230 ≠ gb222) := ⟨h5_⟩
      have n6_ : zC (Below w.heap.size w w15) := ⟨h6_⟩
      clear BK222
      clear HB
      clear h0_ h1_ h2_ h3_ h4_ h5_ h6_
      have BK222 := n0_
      have BK230 := n1_
      have GW230 := n2_
      have GE230 := n3_
      have NB222_230 := n4_
      have NB230_222 := n5_
      have HB := n6_
      clear n0_ n1_ n2_ n3_ n4_ n5_ n6_
      have hHeld : w15.cell? ⟨gb222, 0, none⟩ = some (.int .i64 a0_0) ∧ w15.cell? ⟨gb222, 1, none⟩ = some (.int .i64 a0_1) ∧ w15.cell? ⟨gb222, 2, none⟩ = some (.int .i64 a0_2) ∧ w15.cell? ⟨gb222, 3, none⟩ = some (.int .i64 a0_3) ∧ w15.cell? ⟨gb222, 4, none⟩ = some (.slice A0_4 l0_4.length c0_4) := hS_
      refine yA (a' := ?_) ?_ ?_
      rotate_left
      ·
       simp only [putAll, Act.put, List.setIfInBounds_toArray, List.set_cons_zero, List.set_cons_succ]
       rfl
      refine one_ (i := 11) (N := some 26) #[true, true, true, true, true, true, true, true, true, true, true, true, false, false, false, true, false, false] rfl rfl (yB HT_.out (by kernel_rfl)) (by decide) (fun K hK => ?_)
      refine yD Try.func52 (by kernel_rfl) rfl #[.agg #[.int .i64 a0_0, .int .i64 a0_1, .int .i64 a0_2, .int .i64 a0_3, .slice A0_4 l0_4.length c0_4], .bool t225] (by rfl) rfl rfl (by (try simp only [List.map_toArray, List.map_cons, List.map_nil]); first | done | rfl) ?_
      with_reducible refine (yQ.calls k a0_0 a0_1 a0_2 a0_3 _ _ l0_4 t225 t226 t227 t228 t229 _ ?side1 ?side2 A10.out).mono ?_
      (case side1 => repeat (first | exact (Kd.C_below HR0_4.out HB.out) | (with_reducible refine Kd.C_alloc ?_ _) | (with_reducible refine Kd.C_drewN ?_ _) | (with_reducible refine Kd.C_drew ?_)))
      (case side2 => exact HC0_4.out)
      rintro e w16 ⟨rfl, hb⟩
      refine ⟨_, rfl, ?_⟩
      have n0_ := zC.mk (zK (g := gb222) (o := .cells #[.int .i64 a0_0, .int .i64 a0_1, .int .i64 a0_2, .int .i64 a0_3, .slice A0_4 l0_4.length c0_4] 32 (0, 0)) (by (with_reducible repeat (first | refine zF ?_ _ | refine zI ?_ | refine zE ?_ _)); exact BK222.out) hb)
      have n1_ := zC.mk (zK (g := gb230) (o := .cells #[.int .i64 0, .int .i64 0, .int .i64 0] 30 (0, 0)) (by (with_reducible repeat (first | refine zF ?_ _ | refine zI ?_ | refine zE ?_ _)); exact BK230.out) hb)
      have n2_ := zC.mk (zL (by repeat (first | (with_reducible first | exact HB.out | apply zG | apply zA | apply zD | refine zH ?_ GE222.out | refine zH ?_ GE230.out) | exact HB.out)) hb)
      clear BK222
      clear BK230
      clear HB
      have BK222 := n0_
      have BK230 := n1_
      have HB := n2_
      clear n0_ n1_ n2_
      (try clear hb)
      refine hK.out _ _ ⟨zB BK222.out 0, zB BK222.out 1, zB BK222.out 2, zB BK222.out 3, zB BK222.out 4⟩ (fun hHeld => ?_)
      clear hK K
      refine yA (a' := ?_) ?_ ?_
      rotate_left
      ·
       show Act.put _ (some 26) _ = _
       go_simp
       rfl
      refine zR (i := 12) (N := some 14) (v := ?_) (a' := ?_) #[true, true, true, true, true, true, true, true, true, true, true, true, true, false, false, true, false, false] rfl rfl (zO HT_.out (by kernel_rfl)) (fun _ _ _ h => h) (Or.inl ⟨by rfl, ?_⟩) ?_ ?_
      rotate_left
      ·
       intro w'
       go_simp
       with_reducible rfl
      rotate_left
      ·
       go_simp
       rfl
      refine zR (i := 13) (N := some 27) (v := ?_) (a' := ?_) #[true, true, true, true, true, true, true, true, true, true, true, true, true, true, false, true, false, false] rfl rfl (zO HT_.out (by kernel_rfl)) (fun _ _ _ h => h) (Or.inl ⟨by rfl, ?_⟩) ?_ ?_
      rotate_left
      ·
       intro w'
       go_simp
       with_reducible rfl
      rotate_left
      ·
       go_simp
       rfl
      refine zR (i := 14) (N := some 28) (v := ?_) (a' := ?_) #[true, true, true, true, true, true, true, true, true, true, true, true, true, true, true, true, false, false] rfl rfl (zO HT_.out (by kernel_rfl)) (fun _ _ _ h => h) (Or.inl ⟨by rfl, ?_⟩) ?_ ?_
      rotate_left
      ·
       intro w'
       go_simp
       with_reducible rfl
      rotate_left
      ·
       go_simp
       rfl
      exact yA (by first | (simp only [putAll, Act.put, List.setIfInBounds_toArray, List.set_cons_zero, List.set_cons_succ]; done) | (simp only [putAll, Act.put, List.setIfInBounds_toArray, List.set_cons_zero, List.set_cons_succ]; rfl)) (hJ2_5_9_11_15 (gb230) _ ⟨hHeld, (by (with_reducible repeat (first | refine zF ?_ _ | refine zI ?_ | refine zE ?_ _)); exact BK222.out), (by (with_reducible repeat (first | refine zF ?_ _ | refine zI ?_ | refine zE ?_ _)); exact BK230.out), GW230.out, GE230.out, NB222_230.out, NB230_222.out, (by repeat (first | (with_reducible first | exact HB.out | apply zG | apply zA | apply zD | refine zH ?_ GE222.out | refine zH ?_ GE230.out) | exact HB.out))⟩)
    ·
     skip
     rintro _ w15 ⟨hS_, h0_, h1_⟩
     have n0_ : zC (w15.heap[gb222]? = some (.cells #[.int .i64 a0_0, .int .i64 a0_1, .int .i64 a0_2, .int .i64 a0_3, .slice A0_4 l0_4.length c0_4] 32 (0, 0))) := ⟨h0_⟩
     have n1_ : zC (Below w.heap.size w w15) := ⟨h1_⟩
     clear BK222
     clear HB
     clear h0_ h1_
     have BK222 := n0_
     have HB := n1_
     clear n0_ n1_
     have hHeld : w15.cell? ⟨gb222, 0, none⟩ = some (.int .i64 a0_0) ∧ w15.cell? ⟨gb222, 1, none⟩ = some (.int .i64 a0_1) ∧ w15.cell? ⟨gb222, 2, none⟩ = some (.int .i64 a0_2) ∧ w15.cell? ⟨gb222, 3, none⟩ = some (.int .i64 a0_3) ∧ w15.cell? ⟨gb222, 4, none⟩ = some (.slice A0_4 l0_4.length c0_4) := hS_
     refine yA (a' := ?_) ?_ ?_
     rotate_left
     ·
      simp only [putAll, Act.put, List.setIfInBounds_toArray, List.set_cons_zero, List.set_cons_succ]
      rfl
     refine one_ (i := 15) (N := some 10) #[true, true, true, true, true, true, true, true, true, true, true, true, true, true, true, true, false, false] rfl rfl (yB HT_.out (by kernel_rfl)) (by decide) (fun K hK => ?_)
     refine box_step ?hg (N := 10) ?hd (cs := #[.int .i64 0, .int .i64 0, .int .i64 0]) (t := 30) ?hr ?_; (case hd => rfl); (case hg => rfl); (case hr => first | (go_simp; done) | (go_simp; rfl))
     intro gb230 hg w16 hbox hb
     have n0_ := zC.mk (zK (g := gb222) (o := .cells #[.int .i64 a0_0, .int .i64 a0_1, .int .i64 a0_2, .int .i64 a0_3, .slice A0_4 l0_4.length c0_4] 32 (0, 0)) (by (with_reducible repeat (first | refine zF ?_ _ | refine zI ?_ | refine zE ?_ _)); exact BK222.out) hb)
     have n1_ := zC.mk (zL (by repeat (first | (with_reducible first | exact HB.out | apply zG | apply zA | apply zD | refine zH ?_ GE222.out) | exact HB.out)) hb)
     have n2_ := zC.mk (hbox)
     have n3_ := zC.mk ((by rw [hg]; exact (zM (by repeat (first | (with_reducible first | exact HB.out | apply zG | apply zA | apply zD | refine zH ?_ GE222.out) | exact HB.out))) : w.heap.size ≤ gb230))
     have n4_ := zC.mk ((by rw [hg]; exact (zM (by repeat (first | (with_reducible first | exact HB.out | apply zG | apply zA | apply zD | refine zH ?_ GE222.out) | exact HB.out))) : w.heap.size ≤ gb230))
     have n5_ := zC.mk ((by rw [hg]; exact Nat.ne_of_lt (zV (by (with_reducible repeat (first | refine zF ?_ _ | refine zI ?_ | refine zE ?_ _)); exact BK222.out)) : gb222 ≠ gb230))
     have n6_ := zC.mk ((by rw [hg]; exact Nat.ne_of_gt (zV (by (with_reducible repeat (first | refine zF ?_ _ | refine zI ?_ | refine zE ?_ _)); exact BK222.out)) : gb230 ≠ gb222))
     clear BK222
     clear HB
     have BK222 := n0_
     have HB := n1_
     have BK230 := n2_
     have GW230 := n3_
     have GE230 := n4_
     have NB222_230 := n5_
     have NB230_222 := n6_
     clear n0_ n1_ n2_ n3_ n4_ n5_ n6_
     clear hb hbox hg
     refine hK.out _ _ ⟨zB BK222.out 0, zB BK222.out 1, zB BK222.out 2, zB BK222.out 3, zB BK222.out 4⟩ (fun hHeld => ?_)
     clear hK K
     refine yA (a' := ?_) ?_ ?_
     rotate_left
     ·
      show Act.put _ (some 10) _ = _
      go_simp
      rfl
     exact yA (by first | (simp only [putAll, Act.put, List.setIfInBounds_toArray, List.set_cons_zero, List.set_cons_succ]; done) | (simp only [putAll, Act.put, List.setIfInBounds_toArray, List.set_cons_zero, List.set_cons_succ]; rfl)) (hJ2_5_9_11_15 (gb230) _ ⟨hHeld, (by (with_reducible repeat (first | refine zF ?_ _ | refine zI ?_ | refine zE ?_ _)); exact BK222.out), (by (with_reducible repeat (first | refine zF ?_ _ | refine zI ?_ | refine zE ?_ _)); exact BK230.out), GW230.out, GE230.out, NB222_230.out, NB230_222.out, (by repeat (first | (with_reducible first | exact HB.out | apply zG | apply zA | apply zD | refine zH ?_ GE222.out | refine zH ?_ GE230.out) | exact HB.out))⟩)
   rintro gb230 w16 ⟨hS_, h0_, h1_, h2_, h3_, h4_, h5_, h6_⟩
   have n0_ : zC (w16.heap[gb222]? = some (.cells #[.int .i64 a0_0, .int .i64 a0_1, .int .i64 a0_2, .int .i64 a0_3, .slice A0_4 l0_4.length c0_4] 32 (0, 0))) := ⟨h0_⟩
   have n1_ : zC (w16.heap[gb230]? = some (.cells #[.int .i64 0, .int .i64 0, .int .i64 0] 30 (0, 0))) := ⟨h1_⟩
   have n2_ : zC (w.heap.size ≤ gb230) := ⟨h2_⟩
   have n3_ : zC (w.heap.size ≤ gb230) := ⟨h3_⟩
   have n4_ : zC (gb222 ≠ gb230) := ⟨h4_⟩
   have n5_ : zC (gb230 ≠ gb222) := ⟨h5_⟩
   have n6_ : zC (Below w.heap.size w w16) := ⟨h6_⟩
   clear BK222
   clear HB
   clear h0_ h1_ h2_ h3_ h4_ h5_ h6_
   have BK222 := n0_
   have BK230 := n1_
   have GW230 := n2_
   have GE230 := n3_
   have NB222_230 := n4_
   have NB230_222 := n5_
   have HB := n6_
   clear n0_ n1_ n2_ n3_ n4_ n5_ n6_
   have hHeld : w16.cell? ⟨gb222, 0, none⟩ = some (.int .i64 a0_0) ∧ w16.cell? ⟨gb222, 1, none⟩ = some (.int .i64 a0_1) ∧ w16.cell? ⟨gb222, 2, none⟩ = some (.int .i64 a0_2) ∧ w16.cell? ⟨gb222, 3, none⟩ = some (.int .i64 a0_3) ∧ w16.cell? ⟨gb222, 4, none⟩ = some (.slice A0_4 l0_4.length c0_4) := hS_
   refine yA (a' := ?_) ?_ ?_
   rotate_left
   ·
    simp only [putAll, Act.put, List.setIfInBounds_toArray, List.set_cons_zero, List.set_cons_succ]
    rfl
   refine one_ (i := 16) (N := none) #[true, true, true, true, true, true, true, true, true, true, true, true, true, true, true, true, true, false] rfl rfl (yB HT_.out (by kernel_rfl)) (by decide) (fun K hK => ?_)
   have hs17 : w16.cell? ⟨gb230, 0, none⟩ = some (.int .i64 0) := zB BK230.out 0
   have hfs17 := zJ BK230.out 0
   have hns17_0 := NB222_230.out
   have hms17_0 := NB230_222.out
   have hs18 : w16.cell? ⟨gb230, 1, none⟩ = some (.int .i64 0) := zB BK230.out 1
   have hfs18 := zJ BK230.out 1
   have hns18_0 := NB222_230.out
   have hms18_0 := NB230_222.out
   have hs19 : w16.cell? ⟨gb230, 2, none⟩ = some (.int .i64 0) := zB BK230.out 2
   have hfs19 := zJ BK230.out 2
   have hns19_0 := NB222_230.out
   have hms19_0 := NB230_222.out
   refine skip_ (w1 := ?_) (by rfl) rfl ?_ ?_
   rotate_left
   ·
    go_simp
    rfl
   refine hK.out _ _ ⟨((zT (p := ⟨gb230, _, none⟩) NB222_230.out _).trans (((zT (p := ⟨gb230, _, none⟩) NB222_230.out _).trans (((zT (p := ⟨gb230, _, none⟩) NB222_230.out _).trans (hHeld.1)))))), ((zT (p := ⟨gb230, _, none⟩) NB222_230.out _).trans (((zT (p := ⟨gb230, _, none⟩) NB222_230.out _).trans (((zT (p := ⟨gb230, _, none⟩) NB222_230.out _).trans (hHeld.2.1)))))), ((zT (p := ⟨gb230, _, none⟩) NB222_230.out _).trans (((zT (p := ⟨gb230, _, none⟩) NB222_230.out _).trans (((zT (p := ⟨gb230, _, none⟩) NB222_230.out _).trans (hHeld.2.2.1)))))), ((zT (p := ⟨gb230, _, none⟩) NB222_230.out _).trans (((zT (p := ⟨gb230, _, none⟩) NB222_230.out _).trans (((zT (p := ⟨gb230, _, none⟩) NB222_230.out _).trans (hHeld.2.2.2.1)))))), ((zT (p := ⟨gb230, _, none⟩) NB222_230.out _).trans (((zT (p := ⟨gb230, _, none⟩) NB222_230.out _).trans (((zT (p := ⟨gb230, _, none⟩) NB222_230.out _).trans (hHeld.2.2.2.2))))))⟩ (fun hHeld => ?_)
   clear hK K
   refine zR (i := 17) (N := some 11) (v := ?_) (a' := ?_) #[true, true, true, true, true, true, true, true, true, true, true, true, true, true, true, true, true, true] rfl rfl (zO HT_.out (by kernel_rfl)) (fun _ _ _ h => h) (Or.inl ⟨by rfl, ?_⟩) ?_ ?_
   rotate_left
   ·
    intro w'
    go_simp
    with_reducible rfl
   rotate_left
   ·
    go_simp
    rfl
   refine done_ (done_of HT_.out (by kernel_rfl)) ?_
   go_upto_if 30 with (fail)
   have H := HX11.out
   clear HX11
   by_cases c20 : t229 = 0
   ·
    rw [if_pos c20] at H
    have c20b0 : (t229 == 0) = true := beq_iff_eq.mpr c20
    have c20b1 : (t229 != 0) = false := bne_eq_false_iff_eq.mpr c20
    clear c20
    (first | rw [c20b0] | (simp only [zY, zZ]; rw [c20b0]) | skip)
    replace H := Option.bind_eq_some_iff.mp H
    obtain ⟨⟨t231, t232⟩, A210, H⟩ := H
    replace H : (if t232 = true then ((yP.f k t226 t227 t228).bind fun t233 => ((yR.f k t233 t231 a2 a3).bind fun t234 => (some (t234, 0)))) else (some (([] : List Int), 4))) = some (r1, r2) := H
    have A21 := zC.mk A210
    clear A210
    have HX22 := zC.mk H
    clear H
    have hnb23 := NB230_222.out
    have hnc23 := NB222_230.out
    have hcz24_0 : w16.cell? ⟨gb230, 0, none⟩ = some (.int .i64 0) := zB BK230.out 0
    have hcz24_1 : w16.cell? ⟨gb230, 1, none⟩ = some (.int .i64 0) := zB BK230.out 1
    have hcz24_2 : w16.cell? ⟨gb230, 2, none⟩ = some (.int .i64 0) := zB BK230.out 2
    have hfz24_0 := zJ BK230.out 0
    have hfz24_1 := zJ BK230.out 1
    have hfz24_2 := zJ BK230.out 2
    go_upto_if 39 with (first | ((with_reducible refine zQ (f := 54) rfl ?_); refine zX (some 35) rfl rfl Try.func54 (by kernel_rfl) rfl #[.agg #[.int .i64 t226, .int .i64 t227, .int .i64 t228], .int .i64 a1] rfl (by (try simp only [List.map_toArray, List.map_cons, List.map_nil]); first | done | rfl) ?_; (with_reducible refine (yV.calls k t226 t227 t228 a1 t231 t232 _ A21.out).mono ?_); rintro e w25 ⟨rfl, hb⟩; refine ⟨_, rfl, ?_⟩; have n0_ := zC.mk (zK (g := gb222) (o := .cells #[.int .i64 a0_0, .int .i64 a0_1, .int .i64 a0_2, .int .i64 a0_3, .slice A0_4 l0_4.length c0_4] 32 (0, 0)) (by (with_reducible repeat (first | refine zF ?_ _ | refine zI ?_ | refine zE ?_ _)); refine zU ?_ NB222_230.out _; (with_reducible repeat (first | refine zF ?_ _ | refine zI ?_ | refine zE ?_ _)); refine zU ?_ NB222_230.out _; (with_reducible repeat (first | refine zF ?_ _ | refine zI ?_ | refine zE ?_ _)); refine zU ?_ NB222_230.out _; (with_reducible repeat (first | refine zF ?_ _ | refine zI ?_ | refine zE ?_ _)); exact BK222.out) hb); have n1_ := zC.mk (zK (g := gb230) (o := .cells #[.int .i64 t226, .int .i64 t227, .int .i64 t228] 30 (0, 0)) (by (with_reducible repeat (first | refine zF ?_ _ | refine zI ?_ | refine zE ?_ _)); refine zS (cs := #[.int .i64 t226, .int .i64 t227, .int .i64 0]) ?_ 2 _ rfl; (with_reducible repeat (first | refine zF ?_ _ | refine zI ?_ | refine zE ?_ _)); refine zS (cs := #[.int .i64 t226, .int .i64 0, .int .i64 0]) ?_ 1 _ rfl; (with_reducible repeat (first | refine zF ?_ _ | refine zI ?_ | refine zE ?_ _)); refine zS (cs := #[.int .i64 0, .int .i64 0, .int .i64 0]) ?_ 0 _ rfl; (with_reducible repeat (first | refine zF ?_ _ | refine zI ?_ | refine zE ?_ _)); exact BK230.out) hb); have n2_ := zC.mk (zL (by repeat (first | (with_reducible first | exact HB.out | apply zG | apply zA | apply zD | refine zH ?_ GE222.out | refine zH ?_ GE230.out) | exact HB.out)) hb); clear BK222; clear BK230; clear HB; have BK222 := n0_; have BK230 := n1_; have HB := n2_; clear n0_ n1_ n2_; (try clear hb)))
    have H := HX22.out
    clear HX22
    by_cases c26 : t232 = true
    ·
     subst c26
     have H1 : ((yP.f k t226 t227 t228).bind fun t233 => ((yR.f k t233 t231 a2 a3).bind fun t234 => (some (t234, 0)))) = some (r1, r2) := by rw [if_pos rfl] at H; exact H
     clear H
     have H := H1
     clear H1
     replace H := Option.bind_eq_some_iff.mp H
     obtain ⟨t233, A270, H⟩ := H
     replace H : ((yR.f k t233 t231 a2 a3).bind fun t234 => (some (t234, 0))) = some (r1, r2) := H
     have A27 := zC.mk A270
     clear A270
     replace H := Option.bind_eq_some_iff.mp H
     obtain ⟨t234, A280, H⟩ := H
     replace H : (some (t234, 0)) = some (r1, r2) := H
     have A28 := zC.mk A280
     clear A280
     simp only [Option.some.injEq, Prod.mk.injEq] at H
     obtain ⟨rfl, rfl⟩ := H
     have hnb29 := NB230_222.out
     have hnc29 := NB222_230.out
     have hcz30_0 : w25.cell? ⟨gb230, 0, none⟩ = some (.int .i64 t226) := zB BK230.out 0
     have hcz30_1 : w25.cell? ⟨gb230, 1, none⟩ = some (.int .i64 t227) := zB BK230.out 1
     have hcz30_2 : w25.cell? ⟨gb230, 2, none⟩ = some (.int .i64 t228) := zB BK230.out 2
     have hfz30_0 := zJ BK230.out 0
     have hfz30_1 := zJ BK230.out 1
     have hfz30_2 := zJ BK230.out 2
     go_wp2_with (first | ((with_reducible refine zQ (f := 56) rfl ?_); refine zX (some 41) rfl rfl Try.func56 (by kernel_rfl) rfl #[.agg #[.int .i64 t226, .int .i64 t227, .int .i64 t228]] rfl (by (try simp only [List.map_toArray, List.map_cons, List.map_nil]); first | done | rfl) ?_; (with_reducible refine (yP.calls k t226 t227 t228 t233 _ A27.out).mono ?_); rintro e w31 ⟨rfl, hb⟩; refine ⟨_, rfl, ?_⟩; have n0_ := zC.mk (zK (g := gb222) (o := .cells #[.int .i64 a0_0, .int .i64 a0_1, .int .i64 a0_2, .int .i64 a0_3, .slice A0_4 l0_4.length c0_4] 32 (0, 0)) (by (with_reducible repeat (first | refine zF ?_ _ | refine zI ?_ | refine zE ?_ _)); exact BK222.out) hb); have n1_ := zC.mk (zK (g := gb230) (o := .cells #[.int .i64 t226, .int .i64 t227, .int .i64 t228] 30 (0, 0)) (by (with_reducible repeat (first | refine zF ?_ _ | refine zI ?_ | refine zE ?_ _)); exact BK230.out) hb); have n2_ := zC.mk (zL (by repeat (first | (with_reducible first | exact HB.out | apply zG | apply zA | apply zD | refine zH ?_ GE222.out | refine zH ?_ GE230.out) | exact HB.out)) hb); clear BK222; clear BK230; clear HB; have BK222 := n0_; have BK230 := n1_; have HB := n2_; clear n0_ n1_ n2_; (try clear hb)) | ((with_reducible refine zQ (f := 55) rfl ?_); refine zX (some 45) rfl rfl Try.func55 (by kernel_rfl) rfl #[.int .i64 t233, .int .i64 t231, .int .i64 a2, .int .i64 a3] rfl (by (try simp only [List.map_toArray, List.map_cons, List.map_nil]); first | done | rfl) ?_; (with_reducible refine (yR.calls k t233 t231 a2 a3 t234 _ A28.out).mono ?_); rintro e w32 ⟨v235, rfl, ho0, hb⟩; refine ⟨_, rfl, ?_⟩; have n0_ := zC.mk (Kd.R_lower ho0 (zM (by repeat (first | (with_reducible first | exact HB.out | apply zG | apply zA | apply zD | refine zH ?_ GE222.out | refine zH ?_ GE230.out) | exact HB.out)))); have n1_ := zC.mk (zK (g := gb222) (o := .cells #[.int .i64 a0_0, .int .i64 a0_1, .int .i64 a0_2, .int .i64 a0_3, .slice A0_4 l0_4.length c0_4] 32 (0, 0)) (by (with_reducible repeat (first | refine zF ?_ _ | refine zI ?_ | refine zE ?_ _)); exact BK222.out) hb); have n2_ := zC.mk (zK (g := gb230) (o := .cells #[.int .i64 t226, .int .i64 t227, .int .i64 t228] 30 (0, 0)) (by (with_reducible repeat (first | refine zF ?_ _ | refine zI ?_ | refine zE ?_ _)); exact BK230.out) hb); have n3_ := zC.mk (zL (by repeat (first | (with_reducible first | exact HB.out | apply zG | apply zA | apply zD | refine zH ?_ GE222.out | refine zH ?_ GE230.out) | exact HB.out)) hb); clear BK222; clear BK230; clear HB; have HO236 := n0_; have BK222 := n1_; have BK230 := n2_; have HB := n3_; clear n0_ n1_ n2_ n3_; (try clear hb); (try clear ho0)))
     go_ret2
     exact ⟨_, by first | rfl | (simp [*, errW_none, errW_some] <;> rfl), by (with_reducible repeat (first | apply Kd.R_alloc | apply Kd.R_drewN | apply Kd.R_drew)); exact HO236.out, by repeat (first | (with_reducible first | exact HB.out | apply zG | apply zA | apply zD | refine zH ?_ GE222.out | refine zH ?_ GE230.out) | exact HB.out)⟩
    ·
     replace c26 := Bool.eq_false_iff.mpr c26
     subst c26
     have H1 : (some (([] : List Int), 4)) = some (r1, r2) := by rw [if_neg (show ¬ (false = true) by decide)] at H; exact H
     clear H
     have H := H1
     clear H1
     simp only [Option.some.injEq, Prod.mk.injEq] at H
     obtain ⟨rfl, rfl⟩ := H
     go_wp2
     go_ret2
     exact ⟨_, by first | rfl | (simp [*, errW_none, errW_some] <;> rfl), by first | exact Kd.R_nil _ _ _ _ _ | exact Kd.N_nil _ _ _ _ _ | exact Kd.V_nil _ _ _ _ _ | exact Kd.Q_nil _ _ _ _ _ | exact Kd.S_nil _ _ _ _ _, by repeat (first | (with_reducible first | exact HB.out | apply zG | apply zA | apply zD | refine zH ?_ GE222.out | refine zH ?_ GE230.out) | exact HB.out)⟩
   ·
    rw [if_neg c20] at H
    have c20b0 : (t229 == 0) = false := beq_eq_false_iff_ne.mpr c20
    have c20b1 : (t229 != 0) = true := bne_iff_ne.mpr c20
    (first | rw [c20b0] | (simp only [zY, zZ]; rw [c20b0]) | skip)
    simp only [Option.some.injEq, Prod.mk.injEq] at H
    obtain ⟨rfl, rfl⟩ := H
    go_wp2
    go_ret2
    exact ⟨_, by first | rfl | (simp [*, errW_none, errW_some] <;> rfl), by first | exact Kd.R_nil _ _ _ _ _ | exact Kd.N_nil _ _ _ _ _ | exact Kd.V_nil _ _ _ _ _ | exact Kd.Q_nil _ _ _ _ _ | exact Kd.S_nil _ _ _ _ _, by repeat (first | (with_reducible first | exact HB.out | apply zG | apply zA | apply zD | refine zH ?_ GE222.out | refine zH ?_ GE230.out) | exact HB.out)⟩
  ·
   replace c8 := Bool.eq_false_iff.mpr c8
   subst c8
   have H1 : ((yQ.f k a0_0 a0_1 a0_2 a0_3 l0_4 false).bind fun bt237 => (if bt237.2.2.2 = 0 then (none) else (some (([] : List Int), bt237.2.2.2)))) = some (r1, r2) := by rw [if_neg (show ¬ (false = true) by decide)] at H; exact H
   clear H
   have H := H1
   clear H1
   replace H := Option.bind_eq_some_iff.mp H
   obtain ⟨⟨t237, t238, t239, t240⟩, A330, H⟩ := H
   replace H : (if t240 = 0 then (none) else (some (([] : List Int), t240))) = some (r1, r2) := H
   have A33 := zC.mk A330
   clear A330
   by_cases c34 : t240 = 0
   ·
    rw [if_pos c34] at H
    exact absurd H (by simp)
   ·
    rw [if_neg c34] at H
    have c34b0 : (t240 == 0) = false := beq_eq_false_iff_ne.mpr c34
    have c34b1 : (t240 != 0) = true := bne_iff_ne.mpr c34
    simp only [Option.some.injEq, Prod.mk.injEq] at H
    obtain ⟨rfl, rfl⟩ := H
    go_enter Try.func17, Try.ntmps17
    try go_wp2_with (first | ((with_reducible refine zP (N := 4) rfl ?_); refine zN ?hg (N := 4) ?hd (cs := #[.int .i64 a0_0, .int .i64 a0_1, .int .i64 a0_2, .int .i64 a0_3, .slice A0_4 l0_4.length c0_4]) (t := 32) ?hr ?_; (case hd => rfl); (case hg => rfl); (case hr => first | (go_simp; done) | (go_simp; rfl)); intro gb222 hg w35 hbox hb; have n0_ := zC.mk (zL (by repeat (first | (with_reducible first | exact HB.out | apply zG | apply zA | apply zD) | exact HB.out)) hb); have n1_ := zC.mk (hbox); have n2_ := zC.mk ((by rw [hg]; exact (zM (by repeat (first | (with_reducible first | exact HB.out | apply zG | apply zA | apply zD) | exact HB.out))) : w.heap.size ≤ gb222)); have n3_ := n2_; clear HB; have HB := n0_; have BK222 := n1_; have GW222 := n2_; have GE222 := n3_; clear n0_ n1_ n2_ n3_; clear hb hbox hg))
    have n0_ := zC.mk (zI BK222.out)
    have n1_ := zC.mk (zD HB.out)
    clear BK222
    clear HB
    have BK222 := n0_
    have HB := n1_
    clear n0_ n1_
    refine start_ (n := 18) (S := fun w' => w'.cell? ⟨gb222, 0, none⟩ = some (.int .i64 a0_0) ∧ w'.cell? ⟨gb222, 1, none⟩ = some (.int .i64 a0_1) ∧ w'.cell? ⟨gb222, 2, none⟩ = some (.int .i64 a0_2) ∧ w'.cell? ⟨gb222, 3, none⟩ = some (.int .i64 a0_3) ∧ w'.cell? ⟨gb222, 4, none⟩ = some (.slice A0_4 l0_4.length c0_4)) (ds := []) #[false, false, false, false, false, false, false, false, false, false, false, false, false, false, false, false, false, false] (by kernel_rfl) rfl rfl ⟨zB BK222.out 0, zB BK222.out 1, zB BK222.out 2, zB BK222.out 3, zB BK222.out 4⟩ (fun hHeld => ?_); refine yE xB.tab1 xB.bits1 (fun HT_ HW_ => ?_)
    generalize w35.drew = w36 at BK222 HB hHeld ⊢
    refine zR (i := 1) (N := some 16) (v := ?_) (a' := ?_) #[false, true, false, false, false, false, false, false, false, false, false, false, false, false, false, false, false, false] rfl rfl (zO HT_.out (by kernel_rfl)) (fun _ _ _ h => h) (Or.inl ⟨by rfl, ?_⟩) ?_ ?_
    rotate_left
    ·
     intro w'
     go_simp
     with_reducible rfl
    rotate_left
    ·
     go_simp
     rfl
    refine yC (i := 0) (N := some 15) (v := ?_) (a' := ?_) #[true, true, false, false, false, false, false, false, false, false, false, false, false, false, false, false, false, false] rfl rfl (zW HT_.out HW_.out (by kernel_rfl)) (fun _ _ _ h => h) (Or.inl ⟨by rfl, ?_⟩) hHeld ?_ ?_
    rotate_left
    ·
     rintro w' ⟨s0, s1, s2, s3, s4⟩
     go_simp
     with_reducible rfl
    rotate_left
    ·
     go_simp
     rfl
    refine join_ (σ := Nat) 2 #[true, true, true, true, true, true, true, true, true, true, true, true, true, true, true, true, false, false] (fun s_ => [(17, .bool true), (20, .bool false), (26, .tuple #[.agg #[.int .i64 t237, .int .i64 t238, .int .i64 t239], .int .i64 t240]), (10, .pointer (some ⟨s_, 0, none⟩)), (18, .bool true), (19, .int .i64 a2), (21, .bool false), (22, .bool false), (23, undef), (24, undef), (25, .bool false), (14, .tuple #[.agg #[.int .i64 t237, .int .i64 t238, .int .i64 t239], .int .i64 t240]), (27, .agg #[.int .i64 t237, .int .i64 t238, .int .i64 t239]), (28, .int .i64 t240)]) (fun s_ w' => (w'.cell? ⟨gb222, 0, none⟩ = some (.int .i64 a0_0) ∧ w'.cell? ⟨gb222, 1, none⟩ = some (.int .i64 a0_1) ∧ w'.cell? ⟨gb222, 2, none⟩ = some (.int .i64 a0_2) ∧ w'.cell? ⟨gb222, 3, none⟩ = some (.int .i64 a0_3) ∧ w'.cell? ⟨gb222, 4, none⟩ = some (.slice A0_4 l0_4.length c0_4)) ∧ (w'.heap[gb222]? = some (.cells #[.int .i64 a0_0, .int .i64 a0_1, .int .i64 a0_2, .int .i64 a0_3, .slice A0_4 l0_4.length c0_4] 32 (0, 0))) ∧ (w'.heap[s_]? = some (.cells #[.int .i64 0, .int .i64 0, .int .i64 0] 30 (0, 0))) ∧ (w.heap.size ≤ s_) ∧ (w.heap.size ≤ s_) ∧ (gb222 ≠ s_) ∧ (s_ ≠ gb222) ∧ (Below w.heap.size w w')) ?_ ?_
    rotate_left
    ·
     intro hCont
     refine two_ (i := 2) (j := 15) (Ni := some 17) (Nj := some 10) #[true, true, true, false, false, false, false, false, false, false, false, false, false, false, false, false, false, false] #[true, true, false, false, false, false, false, false, false, false, false, false, false, false, false, true, false, false] rfl rfl rfl rfl (two_of HT_.out (by kernel_rfl)) (by decide) (by decide) (fun K hK => ?_) (fun K hK => ?_)
     ·
      skip
      refine yD Try.func53 (by kernel_rfl) rfl #[.int .i64 a1, .int .i64 1, .int .i64 1000] (by rfl) rfl rfl (by (try simp only [List.map_toArray, List.map_cons, List.map_nil]); first | done | rfl) ?_
      with_reducible refine (xH.calls a1 1 1000 true _ A5.out).mono ?_
      rintro e w' ⟨rfl, ⟨nd, rfl⟩⟩
      refine ⟨_, rfl, ?_⟩
      refine hK.out _ _ ⟨zB BK222.out 0, zB BK222.out 1, zB BK222.out 2, zB BK222.out 3, zB BK222.out 4⟩ (fun hHeld => ?_)
      clear hK K
      refine yA (a' := ?_) ?_ ?_
      rotate_left
      ·
       show Act.put _ (some 17) _ = _
       go_simp
       rfl
      refine zR (i := 3) (N := some 18) (v := ?_) (a' := ?_) #[true, true, true, true, false, false, false, false, false, false, false, false, false, false, false, false, false, false] rfl rfl (zO HT_.out (by kernel_rfl)) (fun _ _ _ h => h) (Or.inl ⟨by rfl, ?_⟩) ?_ ?_
      rotate_left
      ·
       intro w'
       go_simp
       with_reducible rfl
      rotate_left
      ·
       go_simp
       rfl
      refine zR (i := 4) (N := some 19) (v := ?_) (a' := ?_) #[true, true, true, true, true, false, false, false, false, false, false, false, false, false, false, false, false, false] rfl rfl (zO HT_.out (by kernel_rfl)) (fun _ _ _ h => h) (Or.inl ⟨by rfl, ?_⟩) ?_ ?_
      rotate_left
      ·
       intro w'
       go_simp
       with_reducible rfl
      rotate_left
      ·
       go_simp
       rfl
      refine two_ (i := 5) (j := 15) (Ni := some 20) (Nj := some 10) #[true, true, true, true, true, true, false, false, false, false, false, false, false, false, false, false, false, false] #[true, true, true, true, true, false, false, false, false, false, false, false, false, false, false, true, false, false] rfl rfl rfl rfl (two_of HT_.out (by kernel_rfl)) (by decide) (by decide) (fun K hK => ?_) (fun K hK => ?_)
      ·
       skip
       refine yD Try.func53 (by kernel_rfl) rfl #[.int .i64 a2, .int .i64 1, .int .i64 1000] (by rfl) rfl rfl (by (try simp only [List.map_toArray, List.map_cons, List.map_nil]); first | done | rfl) ?_
       with_reducible refine (xH.calls a2 1 1000 false _ A7.out).mono ?_
       rintro e w' ⟨rfl, ⟨nd, rfl⟩⟩
       refine ⟨_, rfl, ?_⟩
       refine hK.out _ _ ⟨zB BK222.out 0, zB BK222.out 1, zB BK222.out 2, zB BK222.out 3, zB BK222.out 4⟩ (fun hHeld => ?_)
       clear hK K
       refine yA (a' := ?_) ?_ ?_
       rotate_left
       ·
        show Act.put _ (some 20) _ = _
        go_simp
        rfl
       refine zR (i := 6) (N := some 21) (v := ?_) (a' := ?_) #[true, true, true, true, true, true, true, false, false, false, false, false, false, false, false, false, false, false] rfl rfl (zO HT_.out (by kernel_rfl)) (fun _ _ _ h => h) (Or.inl ⟨by rfl, ?_⟩) ?_ ?_
       rotate_left
       ·
        intro w'
        go_simp
        with_reducible rfl
       rotate_left
       ·
        go_simp
        rfl
       refine zR (i := 7) (N := some 22) (v := ?_) (a' := ?_) #[true, true, true, true, true, true, true, true, false, false, false, false, false, false, false, false, false, false] rfl rfl (zO HT_.out (by kernel_rfl)) (fun _ _ _ h => h) (Or.inl ⟨by rfl, ?_⟩) ?_ ?_
       rotate_left
       ·
        intro w'
        go_simp
        with_reducible rfl
       rotate_left
       ·
        go_simp
        rfl
       refine zR (i := 8) (N := some 23) (v := undef) (a' := ?_) #[true, true, true, true, true, true, true, true, true, false, false, false, false, false, false, false, false, false] rfl rfl (zO HT_.out (by kernel_rfl)) (fun _ _ _ h => h) (Or.inr ⟨by rfl, rfl⟩) ?_ ?_
       rotate_left
       ·
        go_simp
        rfl
       refine zR (i := 9) (N := some 24) (v := undef) (a' := ?_) #[true, true, true, true, true, true, true, true, true, true, false, false, false, false, false, false, false, false] rfl rfl (zO HT_.out (by kernel_rfl)) (fun _ _ _ h => h) (Or.inr ⟨by rfl, rfl⟩) ?_ ?_
       rotate_left
       ·
        go_simp
        rfl
       refine zR (i := 10) (N := some 25) (v := ?_) (a' := ?_) #[true, true, true, true, true, true, true, true, true, true, true, false, false, false, false, false, false, false] rfl rfl (zO HT_.out (by kernel_rfl)) (fun _ _ _ h => h) (Or.inl ⟨by rfl, ?_⟩) ?_ ?_
       rotate_left
       ·
        intro w'
        go_simp
        with_reducible rfl
       rotate_left
       ·
        go_simp
        rfl
       refine two_ (i := 11) (j := 15) (Ni := some 26) (Nj := some 10) #[true, true, true, true, true, true, true, true, true, true, true, true, false, false, false, false, false, false] #[true, true, true, true, true, true, true, true, true, true, true, false, false, false, false, true, false, false] rfl rfl rfl rfl (two_of HT_.out (by kernel_rfl)) (by decide) (by decide) (fun K hK => ?_) (fun K hK => ?_)
       ·
        skip
        refine yD Try.func52 (by kernel_rfl) rfl #[.agg #[.int .i64 a0_0, .int .i64 a0_1, .int .i64 a0_2, .int .i64 a0_3, .slice A0_4 l0_4.length c0_4], .bool false] (by rfl) rfl rfl (by (try simp only [List.map_toArray, List.map_cons, List.map_nil]); first | done | rfl) ?_
        with_reducible refine (yQ.calls k a0_0 a0_1 a0_2 a0_3 _ _ l0_4 false t237 t238 t239 t240 _ ?side1 ?side2 A33.out).mono ?_
        (case side1 => repeat (first | exact (Kd.C_below HR0_4.out (by repeat (first | (with_reducible first | exact HB.out | apply zG | apply zA | apply zD | refine zH ?_ GE222.out) | exact HB.out))) | (with_reducible refine Kd.C_alloc ?_ _) | (with_reducible refine Kd.C_drewN ?_ _) | (with_reducible refine Kd.C_drew ?_)))
        (case side2 => exact HC0_4.out)
        rintro e w37 ⟨rfl, hb⟩
        refine ⟨_, rfl, ?_⟩
        have n0_ := zC.mk (zK (g := gb222) (o := .cells #[.int .i64 a0_0, .int .i64 a0_1, .int .i64 a0_2, .int .i64 a0_3, .slice A0_4 l0_4.length c0_4] 32 (0, 0)) (by (with_reducible repeat (first | refine zF ?_ _ | refine zI ?_ | refine zE ?_ _)); exact BK222.out) hb)
        have n1_ := zC.mk (zL (by repeat (first | (with_reducible first | exact HB.out | apply zG | apply zA | apply zD | refine zH ?_ GE222.out) | exact HB.out)) hb)
        clear BK222
        clear HB
        have BK222 := n0_
        have HB := n1_
        clear n0_ n1_
        (try clear hb)
        refine hK.out _ _ ⟨zB BK222.out 0, zB BK222.out 1, zB BK222.out 2, zB BK222.out 3, zB BK222.out 4⟩ (fun hHeld => ?_)
        clear hK K
        refine yA (a' := ?_) ?_ ?_
        rotate_left
        ·
         show Act.put _ (some 26) _ = _
         go_simp
         rfl
        refine zR (i := 12) (N := some 14) (v := ?_) (a' := ?_) #[true, true, true, true, true, true, true, true, true, true, true, true, true, false, false, false, false, false] rfl rfl (zO HT_.out (by kernel_rfl)) (fun _ _ _ h => h) (Or.inl ⟨by rfl, ?_⟩) ?_ ?_
        rotate_left
        ·
         intro w'
         go_simp
         with_reducible rfl
        rotate_left
        ·
         go_simp
         rfl
        refine zR (i := 13) (N := some 27) (v := ?_) (a' := ?_) #[true, true, true, true, true, true, true, true, true, true, true, true, true, true, false, false, false, false] rfl rfl (zO HT_.out (by kernel_rfl)) (fun _ _ _ h => h) (Or.inl ⟨by rfl, ?_⟩) ?_ ?_
        rotate_left
        ·
         intro w'
         go_simp
         with_reducible rfl
        rotate_left
        ·
         go_simp
         rfl
        refine zR (i := 14) (N := some 28) (v := ?_) (a' := ?_) #[true, true, true, true, true, true, true, true, true, true, true, true, true, true, true, false, false, false] rfl rfl (zO HT_.out (by kernel_rfl)) (fun _ _ _ h => h) (Or.inl ⟨by rfl, ?_⟩) ?_ ?_
        rotate_left
        ·
         intro w'
         go_simp
         with_reducible rfl
        rotate_left
        ·
         go_simp
         rfl
        refine one_ (i := 15) (N := some 10) #[true, true, true, true, true, true, true, true, true, true, true, true, true, true, true, true, false, false] rfl rfl (yB HT_.out (by kernel_rfl)) (by decide) (fun K hK => ?_)
        refine box_step ?hg (N := 10) ?hd (cs := #[.int .i64 0, .int .i64 0, .int .i64 0]) (t := 30) ?hr ?_; (case hd => rfl); (case hg => rfl); (case hr => first | (go_simp; done) | (go_simp; rfl))
        intro gb241 hg w38 hbox hb
        have n0_ := zC.mk (zK (g := gb222) (o := .cells #[.int .i64 a0_0, .int .i64 a0_1, .int .i64 a0_2, .int .i64 a0_3, .slice A0_4 l0_4.length c0_4] 32 (0, 0)) (by (with_reducible repeat (first | refine zF ?_ _ | refine zI ?_ | refine zE ?_ _)); exact BK222.out) hb)
        have n1_ := zC.mk (zL (by repeat (first | (with_reducible first | exact HB.out | apply zG | apply zA | apply zD | refine zH ?_ GE222.out) | exact HB.out)) hb)
        have n2_ := zC.mk (hbox)
        have n3_ := zC.mk ((by rw [hg]; exact (zM (by repeat (first | (with_reducible first | exact HB.out | apply zG | apply zA | apply zD | refine zH ?_ GE222.out) | exact HB.out))) : w.heap.size ≤ gb241))
        have n4_ := zC.mk ((by rw [hg]; exact (zM (by repeat (first | (with_reducible first | exact HB.out | apply zG | apply zA | apply zD | refine zH ?_ GE222.out) | exact HB.out))) : w.heap.size ≤ gb241))
        have n5_ := zC.mk ((by rw [hg]; exact Nat.ne_of_lt (zV (by (with_reducible repeat (first | refine zF ?_ _ | refine zI ?_ | refine zE ?_ _)); exact BK222.out)) : gb222 ≠ gb241))
        have n6_ := zC.mk ((by rw [hg]; exact Nat.ne_of_gt (zV (by (with_reducible repeat (first | refine zF ?_ _ | refine zI ?_ | refine zE ?_ _)); exact BK222.out)) : gb241 ≠ gb222))
        clear BK222
        clear HB
        have BK222 := n0_
        have HB := n1_
        have BK241 := n2_
        have GW241 := n3_
        have GE241 := n4_
        have NB222_241 := n5_
        have NB241_222 := n6_
        clear n0_ n1_ n2_ n3_ n4_ n5_ n6_
        clear hb hbox hg
        refine hK.out _ _ ⟨zB BK222.out 0, zB BK222.out 1, zB BK222.out 2, zB BK222.out 3, zB BK222.out 4⟩ (fun hHeld => ?_)
        clear hK K
        refine yA (a' := ?_) ?_ ?_
        rotate_left
        ·
         show Act.put _ (some 10) _ = _
         go_simp
         rfl
        exact yA (by simp only [putAll, Act.put, List.setIfInBounds_toArray, List.set_cons_zero, List.set_cons_succ]) (hCont (gb241) _ ⟨hHeld, (by (with_reducible repeat (first | refine zF ?_ _ | refine zI ?_ | refine zE ?_ _)); exact BK222.out), (by (with_reducible repeat (first | refine zF ?_ _ | refine zI ?_ | refine zE ?_ _)); exact BK241.out), GW241.out, GE241.out, NB222_241.out, NB241_222.out, (by repeat (first | (with_reducible first | exact HB.out | apply zG | apply zA | apply zD | refine zH ?_ GE222.out | refine zH ?_ GE241.out) | exact HB.out))⟩)
       ·
        skip
        refine box_step ?hg (N := 10) ?hd (cs := #[.int .i64 0, .int .i64 0, .int .i64 0]) (t := 30) ?hr ?_; (case hd => rfl); (case hg => rfl); (case hr => first | (go_simp; done) | (go_simp; rfl))
        intro gb241 hg w37 hbox hb
        have n0_ := zC.mk (zK (g := gb222) (o := .cells #[.int .i64 a0_0, .int .i64 a0_1, .int .i64 a0_2, .int .i64 a0_3, .slice A0_4 l0_4.length c0_4] 32 (0, 0)) (by (with_reducible repeat (first | refine zF ?_ _ | refine zI ?_ | refine zE ?_ _)); exact BK222.out) hb)
        have n1_ := zC.mk (zL (by repeat (first | (with_reducible first | exact HB.out | apply zG | apply zA | apply zD | refine zH ?_ GE222.out) | exact HB.out)) hb)
        have n2_ := zC.mk (hbox)
        have n3_ := zC.mk ((by rw [hg]; exact (zM (by repeat (first | (with_reducible first | exact HB.out | apply zG | apply zA | apply zD | refine zH ?_ GE222.out) | exact HB.out))) : w.heap.size ≤ gb241))
        have n4_ := zC.mk ((by rw [hg]; exact (zM (by repeat (first | (with_reducible first | exact HB.out | apply zG | apply zA | apply zD | refine zH ?_ GE222.out) | exact HB.out))) : w.heap.size ≤ gb241))
        have n5_ := zC.mk ((by rw [hg]; exact Nat.ne_of_lt (zV (by (with_reducible repeat (first | refine zF ?_ _ | refine zI ?_ | refine zE ?_ _)); exact BK222.out)) : gb222 ≠ gb241))
        have n6_ := zC.mk ((by rw [hg]; exact Nat.ne_of_gt (zV (by (with_reducible repeat (first | refine zF ?_ _ | refine zI ?_ | refine zE ?_ _)); exact BK222.out)) : gb241 ≠ gb222))
        clear BK222
        clear HB
        have BK222 := n0_
        have HB := n1_
        have BK241 := n2_
        have GW241 := n3_
        have GE241 := n4_
        have NB222_241 := n5_
        have NB241_222 := n6_
        clear n0_ n1_ n2_ n3_ n4_ n5_ n6_
        clear hb hbox hg
        refine hK.out _ _ ⟨zB BK222.out 0, zB BK222.out 1, zB BK222.out 2, zB BK222.out 3, zB BK222.out 4⟩ (fun hHeld => ?_)
        clear hK K
        refine yA (a' := ?_) ?_ ?_
        rotate_left
        ·
         show Act.put _ (some 10) _ = _
         go_simp
         rfl
        refine one_ (i := 11) (N := some 26) #[true, true, true, true, true, true, true, true, true, true, true, true, false, false, false, true, false, false] rfl rfl (yB HT_.out (by kernel_rfl)) (by decide) (fun K hK => ?_)
        refine yD Try.func52 (by kernel_rfl) rfl #[.agg #[.int .i64 a0_0, .int .i64 a0_1, .int .i64 a0_2, .int .i64 a0_3, .slice A0_4 l0_4.length c0_4], .bool false] (by rfl) rfl rfl (by (try simp only [List.map_toArray, List.map_cons, List.map_nil]); first | done | rfl) ?_
        with_reducible refine (yQ.calls k a0_0 a0_1 a0_2 a0_3 _ _ l0_4 false t237 t238 t239 t240 _ ?side1 ?side2 A33.out).mono ?_
        (case side1 => repeat (first | exact (Kd.C_below HR0_4.out HB.out) | (with_reducible refine Kd.C_alloc ?_ _) | (with_reducible refine Kd.C_drewN ?_ _) | (with_reducible refine Kd.C_drew ?_)))
        (case side2 => exact HC0_4.out)
        rintro e w38 ⟨rfl, hb⟩
        refine ⟨_, rfl, ?_⟩
        have n0_ := zC.mk (zK (g := gb222) (o := .cells #[.int .i64 a0_0, .int .i64 a0_1, .int .i64 a0_2, .int .i64 a0_3, .slice A0_4 l0_4.length c0_4] 32 (0, 0)) (by (with_reducible repeat (first | refine zF ?_ _ | refine zI ?_ | refine zE ?_ _)); exact BK222.out) hb)
        have n1_ := zC.mk (zK (g := gb241) (o := .cells #[.int .i64 0, .int .i64 0, .int .i64 0] 30 (0, 0)) (by (with_reducible repeat (first | refine zF ?_ _ | refine zI ?_ | refine zE ?_ _)); exact BK241.out) hb)
        have n2_ := zC.mk (zL (by repeat (first | (with_reducible first | exact HB.out | apply zG | apply zA | apply zD | refine zH ?_ GE222.out | refine zH ?_ GE241.out) | exact HB.out)) hb)
        clear BK222
        clear BK241
        clear HB
        have BK222 := n0_
        have BK241 := n1_
        have HB := n2_
        clear n0_ n1_ n2_
        (try clear hb)
        refine hK.out _ _ ⟨zB BK222.out 0, zB BK222.out 1, zB BK222.out 2, zB BK222.out 3, zB BK222.out 4⟩ (fun hHeld => ?_)
        clear hK K
        refine yA (a' := ?_) ?_ ?_
        rotate_left
        ·
         show Act.put _ (some 26) _ = _
         go_simp
         rfl
        refine zR (i := 12) (N := some 14) (v := ?_) (a' := ?_) #[true, true, true, true, true, true, true, true, true, true, true, true, true, false, false, true, false, false] rfl rfl (zO HT_.out (by kernel_rfl)) (fun _ _ _ h => h) (Or.inl ⟨by rfl, ?_⟩) ?_ ?_
        rotate_left
        ·
         intro w'
         go_simp
         with_reducible rfl
        rotate_left
        ·
         go_simp
         rfl
        refine zR (i := 13) (N := some 27) (v := ?_) (a' := ?_) #[true, true, true, true, true, true, true, true, true, true, true, true, true, true, false, true, false, false] rfl rfl (zO HT_.out (by kernel_rfl)) (fun _ _ _ h => h) (Or.inl ⟨by rfl, ?_⟩) ?_ ?_
        rotate_left
        ·
         intro w'
         go_simp
         with_reducible rfl
        rotate_left
        ·
         go_simp
         rfl
        refine zR (i := 14) (N := some 28) (v := ?_) (a' := ?_) #[true, true, true, true, true, true, true, true, true, true, true, true, true, true, true, true, false, false] rfl rfl (zO HT_.out (by kernel_rfl)) (fun _ _ _ h => h) (Or.inl ⟨by rfl, ?_⟩) ?_ ?_
        rotate_left
        ·
         intro w'
         go_simp
         with_reducible rfl
        rotate_left
        ·
         go_simp
         rfl
        exact yA (by simp only [putAll, Act.put, List.setIfInBounds_toArray, List.set_cons_zero, List.set_cons_succ]) (hCont (gb241) _ ⟨hHeld, (by (with_reducible repeat (first | refine zF ?_ _ | refine zI ?_ | refine zE ?_ _)); exact BK222.out), (by (with_reducible repeat (first | refine zF ?_ _ | refine zI ?_ | refine zE ?_ _)); exact BK241.out), GW241.out, GE241.out, NB222_241.out, NB241_222.out, (by repeat (first | (with_reducible first | exact HB.out | apply zG | apply zA | apply zD | refine zH ?_ GE222.out | refine zH ?_ GE241.out) | exact HB.out))⟩)
      ·
       skip
       refine box_step ?hg (N := 10) ?hd (cs := #[.int .i64 0, .int .i64 0, .int .i64 0]) (t := 30) ?hr ?_; (case hd => rfl); (case hg => rfl); (case hr => first | (go_simp; done) | (go_simp; rfl))
       intro gb241 hg w37 hbox hb
       have n0_ := zC.mk (zK (g := gb222) (o := .cells #[.int .i64 a0_0, .int .i64 a0_1, .int .i64 a0_2, .int .i64 a0_3, .slice A0_4 l0_4.length c0_4] 32 (0, 0)) (by (with_reducible repeat (first | refine zF ?_ _ | refine zI ?_ | refine zE ?_ _)); exact BK222.out) hb)
       have n1_ := zC.mk (zL (by repeat (first | (with_reducible first | exact HB.out | apply zG | apply zA | apply zD | refine zH ?_ GE222.out) | exact HB.out)) hb)
       have n2_ := zC.mk (hbox)
       have n3_ := zC.mk ((by rw [hg]; exact (zM (by repeat (first | (with_reducible first | exact HB.out | apply zG | apply zA | apply zD | refine zH ?_ GE222.out) | exact HB.out))) : w.heap.size ≤ gb241))
       have n4_ := zC.mk ((by rw [hg]; exact (zM (by repeat (first | (with_reducible first | exact HB.out | apply zG | apply zA | apply zD | refine zH ?_ GE222.out) | exact HB.out))) : w.heap.size ≤ gb241))
       have n5_ := zC.mk ((by rw [hg]; exact Nat.ne_of_lt (zV (by (with_reducible repeat (first | refine zF ?_ _ | refine zI ?_ | refine zE ?_ _)); exact BK222.out)) : gb222 ≠ gb241))
       have n6_ := zC.mk ((by rw [hg]; exact Nat.ne_of_gt (zV (by (with_reducible repeat (first | refine zF ?_ _ | refine zI ?_ | refine zE ?_ _)); exact BK222.out)) : gb241 ≠ gb222))
       clear BK222
       clear HB
       have BK222 := n0_
       have HB := n1_
       have BK241 := n2_
       have GW241 := n3_
       have GE241 := n4_
       have NB222_241 := n5_
       have NB241_222 := n6_
       clear n0_ n1_ n2_ n3_ n4_ n5_ n6_
       clear hb hbox hg
       refine hK.out _ _ ⟨zB BK222.out 0, zB BK222.out 1, zB BK222.out 2, zB BK222.out 3, zB BK222.out 4⟩ (fun hHeld => ?_)
       clear hK K
       refine yA (a' := ?_) ?_ ?_
       rotate_left
       ·
        show Act.put _ (some 10) _ = _
        go_simp
        rfl
       refine one_ (i := 5) (N := some 20) #[true, true, true, true, true, true, false, false, false, false, false, false, false, false, false, true, false, false] rfl rfl (yB HT_.out (by kernel_rfl)) (by decide) (fun K hK => ?_)
       refine yD Try.func53 (by kernel_rfl) rfl #[.int .i64 a2, .int .i64 1, .int .i64 1000] (by rfl) rfl rfl (by (try simp only [List.map_toArray, List.map_cons, List.map_nil]); first | done | rfl) ?_
       with_reducible refine (xH.calls a2 1 1000 false _ A7.out).mono ?_
       rintro e w' ⟨rfl, ⟨nd, rfl⟩⟩
       refine ⟨_, rfl, ?_⟩
       refine hK.out _ _ ⟨zB BK222.out 0, zB BK222.out 1, zB BK222.out 2, zB BK222.out 3, zB BK222.out 4⟩ (fun hHeld => ?_)
       clear hK K
       refine yA (a' := ?_) ?_ ?_
       rotate_left
       ·
        show Act.put _ (some 20) _ = _
        go_simp
        rfl
       refine zR (i := 6) (N := some 21) (v := ?_) (a' := ?_) #[true, true, true, true, true, true, true, false, false, false, false, false, false, false, false, true, false, false] rfl rfl (zO HT_.out (by kernel_rfl)) (fun _ _ _ h => h) (Or.inl ⟨by rfl, ?_⟩) ?_ ?_
       rotate_left
       ·
        intro w'
        go_simp
        with_reducible rfl
       rotate_left
       ·
        go_simp
        rfl
       refine zR (i := 7) (N := some 22) (v := ?_) (a' := ?_) #[true, true, true, true, true, true, true, true, false, false, false, false, false, false, false, true, false, false] rfl rfl (zO HT_.out (by kernel_rfl)) (fun _ _ _ h => h) (Or.inl ⟨by rfl, ?_⟩) ?_ ?_
       rotate_left
       ·
        intro w'
        go_simp
        with_reducible rfl
       rotate_left
       ·
        go_simp
        rfl
       refine zR (i := 8) (N := some 23) (v := undef) (a' := ?_) #[true, true, true, true, true, true, true, true, true, false, false, false, false, false, false, true, false, false] rfl rfl (zO HT_.out (by kernel_rfl)) (fun _ _ _ h => h) (Or.inr ⟨by rfl, rfl⟩) ?_ ?_
       rotate_left
       ·
        go_simp
        rfl
       refine zR (i := 9) (N := some 24) (v := undef) (a' := ?_) #[true, true, true, true, true, true, true, true, true, true, false, false, false, false, false, true, false, false] rfl rfl (zO HT_.out (by kernel_rfl)) (fun _ _ _ h => h) (Or.inr ⟨by rfl, rfl⟩) ?_ ?_
       rotate_left
       ·
        go_simp
        rfl
       refine zR (i := 10) (N := some 25) (v := ?_) (a' := ?_) #[true, true, true, true, true, true, true, true, true, true, true, false, false, false, false, true, false, false] rfl rfl (zO HT_.out (by kernel_rfl)) (fun _ _ _ h => h) (Or.inl ⟨by rfl, ?_⟩) ?_ ?_
       rotate_left
       ·
        intro w'
        go_simp
        with_reducible rfl
       rotate_left
       ·
        go_simp
        rfl
       refine one_ (i := 11) (N := some 26) #[true, true, true, true, true, true, true, true, true, true, true, true, false, false, false, true, false, false] rfl rfl (yB HT_.out (by kernel_rfl)) (by decide) (fun K hK => ?_)
       refine yD Try.func52 (by kernel_rfl) rfl #[.agg #[.int .i64 a0_0, .int .i64 a0_1, .int .i64 a0_2, .int .i64 a0_3, .slice A0_4 l0_4.length c0_4], .bool false] (by rfl) rfl rfl (by (try simp only [List.map_toArray, List.map_cons, List.map_nil]); first | done | rfl) ?_
       with_reducible refine (yQ.calls k a0_0 a0_1 a0_2 a0_3 _ _ l0_4 false t237 t238 t239 t240 _ ?side1 ?side2 A33.out).mono ?_
       (case side1 => repeat (first | exact (Kd.C_below HR0_4.out (by repeat (first | (with_reducible first | exact HB.out | apply zG | apply zA | apply zD | refine zH ?_ GE222.out | refine zH ?_ GE241.out) | exact HB.out))) | (with_reducible refine Kd.C_alloc ?_ _) | (with_reducible refine Kd.C_drewN ?_ _) | (with_reducible refine Kd.C_drew ?_)))
       (case side2 => exact HC0_4.out)
       rintro e w38 ⟨rfl, hb⟩
       refine ⟨_, rfl, ?_⟩
       have n0_ := zC.mk (zK (g := gb222) (o := .cells #[.int .i64 a0_0, .int .i64 a0_1, .int .i64 a0_2, .int .i64 a0_3, .slice A0_4 l0_4.length c0_4] 32 (0, 0)) (by (with_reducible repeat (first | refine zF ?_ _ | refine zI ?_ | refine zE ?_ _)); exact BK222.out) hb)
       have n1_ := zC.mk (zK (g := gb241) (o := .cells #[.int .i64 0, .int .i64 0, .int .i64 0] 30 (0, 0)) (by (with_reducible repeat (first | refine zF ?_ _ | refine zI ?_ | refine zE ?_ _)); exact BK241.out) hb)
       have n2_ := zC.mk (zL (by repeat (first | (with_reducible first | exact HB.out | apply zG | apply zA | apply zD | refine zH ?_ GE222.out | refine zH ?_ GE241.out) | exact HB.out)) hb)
       clear BK222
       clear BK241
       clear HB
       have BK222 := n0_
       have BK241 := n1_
       have HB := n2_
       clear n0_ n1_ n2_
       (try clear hb)
       refine hK.out _ _ ⟨zB BK222.out 0, zB BK222.out 1, zB BK222.out 2, zB BK222.out 3, zB BK222.out 4⟩ (fun hHeld => ?_)
       clear hK K
       refine yA (a' := ?_) ?_ ?_
       rotate_left
       ·
        show Act.put _ (some 26) _ = _
        go_simp
        rfl
       refine zR (i := 12) (N := some 14) (v := ?_) (a' := ?_) #[true, true, true, true, true, true, true, true, true, true, true, true, true, false, false, true, false, false] rfl rfl (zO HT_.out (by kernel_rfl)) (fun _ _ _ h => h) (Or.inl ⟨by rfl, ?_⟩) ?_ ?_
       rotate_left
       ·
        intro w'
        go_simp
        with_reducible rfl
       rotate_left
       ·
        go_simp
        rfl
       refine zR (i := 13) (N := some 27) (v := ?_) (a' := ?_) #[true, true, true, true, true, true, true, true, true, true, true, true, true, true, false, true, false, false] rfl rfl (zO HT_.out (by kernel_rfl)) (fun _ _ _ h => h) (Or.inl ⟨by rfl, ?_⟩) ?_ ?_
       rotate_left
       ·
        intro w'
        go_simp
        with_reducible rfl
       rotate_left
       ·
        go_simp
        rfl
       refine zR (i := 14) (N := some 28) (v := ?_) (a' := ?_) #[true, true, true, true, true, true, true, true, true, true, true, true, true, true, true, true, false, false] rfl rfl (zO HT_.out (by kernel_rfl)) (fun _ _ _ h => h) (Or.inl ⟨by rfl, ?_⟩) ?_ ?_
       rotate_left
       ·
        intro w'
        go_simp
        with_reducible rfl
       rotate_left
       ·
        go_simp
        rfl
       exact yA (by simp only [putAll, Act.put, List.setIfInBounds_toArray, List.set_cons_zero, List.set_cons_succ]) (hCont (gb241) _ ⟨hHeld, (by (with_reducible repeat (first | refine zF ?_ _ | refine zI ?_ | refine zE ?_ _)); exact BK222.out), (by (with_reducible repeat (first | refine zF ?_ _ | refine zI ?_ | refine zE ?_ _)); exact BK241.out), GW241.out, GE241.out, NB222_241.out, NB241_222.out, (by repeat (first | (with_reducible first | exact HB.out | apply zG | apply zA | apply zD | refine zH ?_ GE222.out | refine zH ?_ GE241.out) | exact HB.out))⟩)
     ·
      skip
      refine box_step ?hg (N := 10) ?hd (cs := #[.int .i64 0, .int .i64 0, .int .i64 0]) (t := 30) ?hr ?_; (case hd => rfl); (case hg => rfl); (case hr => first | (go_simp; done) | (go_simp; rfl))
      intro gb241 hg w37 hbox hb
      have n0_ := zC.mk (zK (g := gb222) (o := .cells #[.int .i64 a0_0, .int .i64 a0_1, .int .i64 a0_2, .int .i64 a0_3, .slice A0_4 l0_4.length c0_4] 32 (0, 0)) (by (with_reducible repeat (first | refine zF ?_ _ | refine zI ?_ | refine zE ?_ _)); exact BK222.out) hb)
      have n1_ := zC.mk (zL (by repeat (first | (with_reducible first | exact HB.out | apply zG | apply zA | apply zD | refine zH ?_ GE222.out) | exact HB.out)) hb)
      have n2_ := zC.mk (hbox)
      have n3_ := zC.mk ((by rw [hg]; exact (zM (by repeat (first | (with_reducible first | exact HB.out | apply zG | apply zA | apply zD | refine zH ?_ GE222.out) | exact HB.out))) : w.heap.size ≤ gb241))
      have n4_ := zC.mk ((by rw [hg]; exact (zM (by repeat (first | (with_reducible first | exact HB.out | apply zG | apply zA | apply zD | refine zH ?_ GE222.out) | exact HB.out))) : w.heap.size ≤ gb241))
      have n5_ := zC.mk ((by rw [hg]; exact Nat.ne_of_lt (zV (by (with_reducible repeat (first | refine zF ?_ _ | refine zI ?_ | refine zE ?_ _)); exact BK222.out)) : gb222 ≠ gb241))
      have n6_ := zC.mk ((by rw [hg]; exact Nat.ne_of_gt (zV (by (with_reducible repeat (first | refine zF ?_ _ | refine zI ?_ | refine zE ?_ _)); exact BK222.out)) : gb241 ≠ gb222))
      clear BK222
      clear HB
      have BK222 := n0_
      have HB := n1_
      have BK241 := n2_
      have GW241 := n3_
      have GE241 := n4_
      have NB222_241 := n5_
      have NB241_222 := n6_
      clear n0_ n1_ n2_ n3_ n4_ n5_ n6_
      clear hb hbox hg
      refine hK.out _ _ ⟨zB BK222.out 0, zB BK222.out 1, zB BK222.out 2, zB BK222.out 3, zB BK222.out 4⟩ (fun hHeld => ?_)
      clear hK K
      refine yA (a' := ?_) ?_ ?_
      rotate_left
      ·
       show Act.put _ (some 10) _ = _
       go_simp
       rfl
      refine one_ (i := 2) (N := some 17) #[true, true, true, false, false, false, false, false, false, false, false, false, false, false, false, true, false, false] rfl rfl (yB HT_.out (by kernel_rfl)) (by decide) (fun K hK => ?_)
      refine yD Try.func53 (by kernel_rfl) rfl #[.int .i64 a1, .int .i64 1, .int .i64 1000] (by rfl) rfl rfl (by (try simp only [List.map_toArray, List.map_cons, List.map_nil]); first | done | rfl) ?_
      with_reducible refine (xH.calls a1 1 1000 true _ A5.out).mono ?_
      rintro e w' ⟨rfl, ⟨nd, rfl⟩⟩
      refine ⟨_, rfl, ?_⟩
      refine hK.out _ _ ⟨zB BK222.out 0, zB BK222.out 1, zB BK222.out 2, zB BK222.out 3, zB BK222.out 4⟩ (fun hHeld => ?_)
      clear hK K
      refine yA (a' := ?_) ?_ ?_
      rotate_left
      ·
       show Act.put _ (some 17) _ = _
       go_simp
       rfl
      refine zR (i := 3) (N := some 18) (v := ?_) (a' := ?_) #[true, true, true, true, false, false, false, false, false, false, false, false, false, false, false, true, false, false] rfl rfl (zO HT_.out (by kernel_rfl)) (fun _ _ _ h => h) (Or.inl ⟨by rfl, ?_⟩) ?_ ?_
      rotate_left
      ·
       intro w'
       go_simp
       with_reducible rfl
      rotate_left
      ·
       go_simp
       rfl
      refine zR (i := 4) (N := some 19) (v := ?_) (a' := ?_) #[true, true, true, true, true, false, false, false, false, false, false, false, false, false, false, true, false, false] rfl rfl (zO HT_.out (by kernel_rfl)) (fun _ _ _ h => h) (Or.inl ⟨by rfl, ?_⟩) ?_ ?_
      rotate_left
      ·
       intro w'
       go_simp
       with_reducible rfl
      rotate_left
      ·
       go_simp
       rfl
      refine one_ (i := 5) (N := some 20) #[true, true, true, true, true, true, false, false, false, false, false, false, false, false, false, true, false, false] rfl rfl (yB HT_.out (by kernel_rfl)) (by decide) (fun K hK => ?_)
      refine yD Try.func53 (by kernel_rfl) rfl #[.int .i64 a2, .int .i64 1, .int .i64 1000] (by rfl) rfl rfl (by (try simp only [List.map_toArray, List.map_cons, List.map_nil]); first | done | rfl) ?_
      with_reducible refine (xH.calls a2 1 1000 false _ A7.out).mono ?_
      rintro e w' ⟨rfl, ⟨nd, rfl⟩⟩
      refine ⟨_, rfl, ?_⟩
      refine hK.out _ _ ⟨zB BK222.out 0, zB BK222.out 1, zB BK222.out 2, zB BK222.out 3, zB BK222.out 4⟩ (fun hHeld => ?_)
      clear hK K
      refine yA (a' := ?_) ?_ ?_
      rotate_left
      ·
       show Act.put _ (some 20) _ = _
       go_simp
       rfl
      refine zR (i := 6) (N := some 21) (v := ?_) (a' := ?_) #[true, true, true, true, true, true, true, false, false, false, false, false, false, false, false, true, false, false] rfl rfl (zO HT_.out (by kernel_rfl)) (fun _ _ _ h => h) (Or.inl ⟨by rfl, ?_⟩) ?_ ?_
      rotate_left
      ·
       intro w'
       go_simp
       with_reducible rfl
      rotate_left
      ·
       go_simp
       rfl
      refine zR (i := 7) (N := some 22) (v := ?_) (a' := ?_) #[true, true, true, true, true, true, true, true, false, false, false, false, false, false, false, true, false, false] rfl rfl (zO HT_.out (by kernel_rfl)) (fun _ _ _ h => h) (Or.inl ⟨by rfl, ?_⟩) ?_ ?_
      rotate_left
      ·
       intro w'
       go_simp
       with_reducible rfl
      rotate_left
      ·
       go_simp
       rfl
      refine zR (i := 8) (N := some 23) (v := undef) (a' := ?_) #[true, true, true, true, true, true, true, true, true, false, false, false, false, false, false, true, false, false] rfl rfl (zO HT_.out (by kernel_rfl)) (fun _ _ _ h => h) (Or.inr ⟨by rfl, rfl⟩) ?_ ?_
      rotate_left
      ·
       go_simp
       rfl
      refine zR (i := 9) (N := some 24) (v := undef) (a' := ?_) #[true, true, true, true, true, true, true, true, true, true, false, false, false, false, false, true, false, false] rfl rfl (zO HT_.out (by kernel_rfl)) (fun _ _ _ h => h) (Or.inr ⟨by rfl, rfl⟩) ?_ ?_
      rotate_left
      ·
       go_simp
       rfl
      refine zR (i := 10) (N := some 25) (v := ?_) (a' := ?_) #[true, true, true, true, true, true, true, true, true, true, true, false, false, false, false, true, false, false] rfl rfl (zO HT_.out (by kernel_rfl)) (fun _ _ _ h => h) (Or.inl ⟨by rfl, ?_⟩) ?_ ?_
      rotate_left
      ·
       intro w'
       go_simp
       with_reducible rfl
      rotate_left
      ·
       go_simp
       rfl
      refine one_ (i := 11) (N := some 26) #[true, true, true, true, true, true, true, true, true, true, true, true, false, false, false, true, false, false] rfl rfl (yB HT_.out (by kernel_rfl)) (by decide) (fun K hK => ?_)
      refine yD Try.func52 (by kernel_rfl) rfl #[.agg #[.int .i64 a0_0, .int .i64 a0_1, .int .i64 a0_2, .int .i64 a0_3, .slice A0_4 l0_4.length c0_4], .bool false] (by rfl) rfl rfl (by (try simp only [List.map_toArray, List.map_cons, List.map_nil]); first | done | rfl) ?_
      with_reducible refine (yQ.calls k a0_0 a0_1 a0_2 a0_3 _ _ l0_4 false t237 t238 t239 t240 _ ?side1 ?side2 A33.out).mono ?_
      (case side1 => repeat (first | exact (Kd.C_below HR0_4.out (by repeat (first | (with_reducible first | exact HB.out | apply zG | apply zA | apply zD | refine zH ?_ GE222.out | refine zH ?_ GE241.out) | exact HB.out))) | (with_reducible refine Kd.C_alloc ?_ _) | (with_reducible refine Kd.C_drewN ?_ _) | (with_reducible refine Kd.C_drew ?_)))
      (case side2 => exact HC0_4.out)
      rintro e w38 ⟨rfl, hb⟩
      refine ⟨_, rfl, ?_⟩
      have n0_ := zC.mk (zK (g := gb222) (o := .cells #[.int .i64 a0_0, .int .i64 a0_1, .int .i64 a0_2, .int .i64 a0_3, .slice A0_4 l0_4.length c0_4] 32 (0, 0)) (by (with_reducible repeat (first | refine zF ?_ _ | refine zI ?_ | refine zE ?_ _)); exact BK222.out) hb)
      have n1_ := zC.mk (zK (g := gb241) (o := .cells #[.int .i64 0, .int .i64 0, .int .i64 0] 30 (0, 0)) (by (with_reducible repeat (first | refine zF ?_ _ | refine zI ?_ | refine zE ?_ _)); exact BK241.out) hb)
      have n2_ := zC.mk (zL (by repeat (first | (with_reducible first | exact HB.out | apply zG | apply zA | apply zD | refine zH ?_ GE222.out | refine zH ?_ GE241.out) | exact HB.out)) hb)
      clear BK222
      clear BK241
      clear HB
      have BK222 := n0_
      have BK241 := n1_
      have HB := n2_
      clear n0_ n1_ n2_
      (try clear hb)
      refine hK.out _ _ ⟨zB BK222.out 0, zB BK222.out 1, zB BK222.out 2, zB BK222.out 3, zB BK222.out 4⟩ (fun hHeld => ?_)
      clear hK K
      refine yA (a' := ?_) ?_ ?_
      rotate_left
      ·
       show Act.put _ (some 26) _ = _
       go_simp
       rfl
      refine zR (i := 12) (N := some 14) (v := ?_) (a' := ?_) #[true, true, true, true, true, true, true, true, true, true, true, true, true, false, false, true, false, false] rfl rfl (zO HT_.out (by kernel_rfl)) (fun _ _ _ h => h) (Or.inl ⟨by rfl, ?_⟩) ?_ ?_
      rotate_left
      ·
       intro w'
       go_simp
       with_reducible rfl
      rotate_left
      ·
       go_simp
       rfl
      refine zR (i := 13) (N := some 27) (v := ?_) (a' := ?_) #[true, true, true, true, true, true, true, true, true, true, true, true, true, true, false, true, false, false] rfl rfl (zO HT_.out (by kernel_rfl)) (fun _ _ _ h => h) (Or.inl ⟨by rfl, ?_⟩) ?_ ?_
      rotate_left
      ·
       intro w'
       go_simp
       with_reducible rfl
      rotate_left
      ·
       go_simp
       rfl
      refine zR (i := 14) (N := some 28) (v := ?_) (a' := ?_) #[true, true, true, true, true, true, true, true, true, true, true, true, true, true, true, true, false, false] rfl rfl (zO HT_.out (by kernel_rfl)) (fun _ _ _ h => h) (Or.inl ⟨by rfl, ?_⟩) ?_ ?_
      rotate_left
      ·
       intro w'
       go_simp
       with_reducible rfl
      rotate_left
      ·
       go_simp
       rfl
      exact yA (by simp only [putAll, Act.put, List.setIfInBounds_toArray, List.set_cons_zero, List.set_cons_succ]) (hCont (gb241) _ ⟨hHeld, (by (with_reducible repeat (first | refine zF ?_ _ | refine zI ?_ | refine zE ?_ _)); exact BK222.out), (by (with_reducible repeat (first | refine zF ?_ _ | refine zI ?_ | refine zE ?_ _)); exact BK241.out), GW241.out, GE241.out, NB222_241.out, NB241_222.out, (by repeat (first | (with_reducible first | exact HB.out | apply zG | apply zA | apply zD | refine zH ?_ GE222.out | refine zH ?_ GE241.out) | exact HB.out))⟩)
    rintro gb241 w39 ⟨hS_, h0_, h1_, h2_, h3_, h4_, h5_, h6_⟩
    have n0_ : zC (w39.heap[gb222]? = some (.cells #[.int .i64 a0_0, .int .i64 a0_1, .int .i64 a0_2, .int .i64 a0_3, .slice A0_4 l0_4.length c0_4] 32 (0, 0))) := ⟨h0_⟩
    have n1_ : zC (w39.heap[gb241]? = some (.cells #[.int .i64 0, .int .i64 0, .int .i64 0] 30 (0, 0))) := ⟨h1_⟩
    have n2_ : zC (w.heap.size ≤ gb241) := ⟨h2_⟩
    have n3_ : zC (w.heap.size ≤ gb241) := ⟨h3_⟩
    have n4_ : zC (gb222 ≠ gb241) := ⟨h4_⟩
    have n5_ : zC (gb241 ≠ gb222) := ⟨h5_⟩
    have n6_ : zC (Below w.heap.size w w39) := ⟨h6_⟩
    clear BK222
    clear HB
    clear h0_ h1_ h2_ h3_ h4_ h5_ h6_
    have BK222 := n0_
    have BK241 := n1_
    have GW241 := n2_
    have GE241 := n3_
    have NB222_241 := n4_
    have NB241_222 := n5_
    have HB := n6_
    clear n0_ n1_ n2_ n3_ n4_ n5_ n6_
    have hHeld : w39.cell? ⟨gb222, 0, none⟩ = some (.int .i64 a0_0) ∧ w39.cell? ⟨gb222, 1, none⟩ = some (.int .i64 a0_1) ∧ w39.cell? ⟨gb222, 2, none⟩ = some (.int .i64 a0_2) ∧ w39.cell? ⟨gb222, 3, none⟩ = some (.int .i64 a0_3) ∧ w39.cell? ⟨gb222, 4, none⟩ = some (.slice A0_4 l0_4.length c0_4) := hS_
    refine yA (a' := ?_) ?_ ?_
    rotate_left
    ·
     simp only [putAll, Act.put, List.setIfInBounds_toArray, List.set_cons_zero, List.set_cons_succ]
     rfl
    refine one_ (i := 16) (N := none) #[true, true, true, true, true, true, true, true, true, true, true, true, true, true, true, true, true, false] rfl rfl (yB HT_.out (by kernel_rfl)) (by decide) (fun K hK => ?_)
    have hs40 : w39.cell? ⟨gb241, 0, none⟩ = some (.int .i64 0) := zB BK241.out 0
    have hfs40 := zJ BK241.out 0
    have hns40_0 := NB222_241.out
    have hms40_0 := NB241_222.out
    have hs41 : w39.cell? ⟨gb241, 1, none⟩ = some (.int .i64 0) := zB BK241.out 1
    have hfs41 := zJ BK241.out 1
    have hns41_0 := NB222_241.out
    have hms41_0 := NB241_222.out
    have hs42 : w39.cell? ⟨gb241, 2, none⟩ = some (.int .i64 0) := zB BK241.out 2
    have hfs42 := zJ BK241.out 2
    have hns42_0 := NB222_241.out
    have hms42_0 := NB241_222.out
    refine skip_ (w1 := ?_) (by rfl) rfl ?_ ?_
    rotate_left
    ·
     go_simp
     rfl
    refine hK.out _ _ ⟨((zT (p := ⟨gb241, _, none⟩) NB222_241.out _).trans (((zT (p := ⟨gb241, _, none⟩) NB222_241.out _).trans (((zT (p := ⟨gb241, _, none⟩) NB222_241.out _).trans (hHeld.1)))))), ((zT (p := ⟨gb241, _, none⟩) NB222_241.out _).trans (((zT (p := ⟨gb241, _, none⟩) NB222_241.out _).trans (((zT (p := ⟨gb241, _, none⟩) NB222_241.out _).trans (hHeld.2.1)))))), ((zT (p := ⟨gb241, _, none⟩) NB222_241.out _).trans (((zT (p := ⟨gb241, _, none⟩) NB222_241.out _).trans (((zT (p := ⟨gb241, _, none⟩) NB222_241.out _).trans (hHeld.2.2.1)))))), ((zT (p := ⟨gb241, _, none⟩) NB222_241.out _).trans (((zT (p := ⟨gb241, _, none⟩) NB222_241.out _).trans (((zT (p := ⟨gb241, _, none⟩) NB222_241.out _).trans (hHeld.2.2.2.1)))))), ((zT (p := ⟨gb241, _, none⟩) NB222_241.out _).trans (((zT (p := ⟨gb241, _, none⟩) NB222_241.out _).trans (((zT (p := ⟨gb241, _, none⟩) NB222_241.out _).trans (hHeld.2.2.2.2))))))⟩ (fun hHeld => ?_)
    clear hK K
    refine zR (i := 17) (N := some 11) (v := ?_) (a' := ?_) #[true, true, true, true, true, true, true, true, true, true, true, true, true, true, true, true, true, true] rfl rfl (zO HT_.out (by kernel_rfl)) (fun _ _ _ h => h) (Or.inl ⟨by rfl, ?_⟩) ?_ ?_
    rotate_left
    ·
     intro w'
     go_simp
     with_reducible rfl
    rotate_left
    ·
     go_simp
     rfl
    refine done_ (done_of HT_.out (by kernel_rfl)) ?_
    try go_wp2
    go_ret2
    exact ⟨_, by first | rfl | (simp [*, errW_none, errW_some] <;> rfl), by first | exact Kd.R_nil _ _ _ _ _ | exact Kd.N_nil _ _ _ _ _ | exact Kd.V_nil _ _ _ _ _ | exact Kd.Q_nil _ _ _ _ _ | exact Kd.S_nil _ _ _ _ _, by repeat (first | (with_reducible first | exact HB.out | apply zG | apply zA | apply zD | refine zH ?_ GE222.out | refine zH ?_ GE241.out) | exact HB.out)⟩
 ·
  replace c6 := Bool.eq_false_iff.mpr c6
  subst c6
  have H1 : ((yQ.f k a0_0 a0_1 a0_2 a0_3 l0_4 false).bind fun bt242 => (if bt242.2.2.2 = 0 then (none) else (some (([] : List Int), bt242.2.2.2)))) = some (r1, r2) := by rw [if_neg (show ¬ (false = true) by decide)] at H; exact H
  clear H
  have H := H1
  clear H1
  replace H := Option.bind_eq_some_iff.mp H
  obtain ⟨⟨t242, t243, t244, t245⟩, A430, H⟩ := H
  replace H : (if t245 = 0 then (none) else (some (([] : List Int), t245))) = some (r1, r2) := H
  have A43 := zC.mk A430
  clear A430
  by_cases c44 : t245 = 0
  ·
   rw [if_pos c44] at H
   exact absurd H (by simp)
  ·
   rw [if_neg c44] at H
   have c44b0 : (t245 == 0) = false := beq_eq_false_iff_ne.mpr c44
   have c44b1 : (t245 != 0) = true := bne_iff_ne.mpr c44
   simp only [Option.some.injEq, Prod.mk.injEq] at H
   obtain ⟨rfl, rfl⟩ := H
   go_enter Try.func17, Try.ntmps17
   try go_wp2_with (first | ((with_reducible refine zP (N := 4) rfl ?_); refine zN ?hg (N := 4) ?hd (cs := #[.int .i64 a0_0, .int .i64 a0_1, .int .i64 a0_2, .int .i64 a0_3, .slice A0_4 l0_4.length c0_4]) (t := 32) ?hr ?_; (case hd => rfl); (case hg => rfl); (case hr => first | (go_simp; done) | (go_simp; rfl)); intro gb222 hg w45 hbox hb; have n0_ := zC.mk (zL (by repeat (first | (with_reducible first | exact HB.out | apply zG | apply zA | apply zD) | exact HB.out)) hb); have n1_ := zC.mk (hbox); have n2_ := zC.mk ((by rw [hg]; exact (zM (by repeat (first | (with_reducible first | exact HB.out | apply zG | apply zA | apply zD) | exact HB.out))) : w.heap.size ≤ gb222)); have n3_ := n2_; clear HB; have HB := n0_; have BK222 := n1_; have GW222 := n2_; have GE222 := n3_; clear n0_ n1_ n2_ n3_; clear hb hbox hg))
   have n0_ := zC.mk (zI BK222.out)
   have n1_ := zC.mk (zD HB.out)
   clear BK222
   clear HB
   have BK222 := n0_
   have HB := n1_
   clear n0_ n1_
   refine start_ (n := 18) (S := fun w' => w'.cell? ⟨gb222, 0, none⟩ = some (.int .i64 a0_0) ∧ w'.cell? ⟨gb222, 1, none⟩ = some (.int .i64 a0_1) ∧ w'.cell? ⟨gb222, 2, none⟩ = some (.int .i64 a0_2) ∧ w'.cell? ⟨gb222, 3, none⟩ = some (.int .i64 a0_3) ∧ w'.cell? ⟨gb222, 4, none⟩ = some (.slice A0_4 l0_4.length c0_4)) (ds := []) #[false, false, false, false, false, false, false, false, false, false, false, false, false, false, false, false, false, false] (by kernel_rfl) rfl rfl ⟨zB BK222.out 0, zB BK222.out 1, zB BK222.out 2, zB BK222.out 3, zB BK222.out 4⟩ (fun hHeld => ?_); refine yE xB.tab1 xB.bits1 (fun HT_ HW_ => ?_)
   generalize w45.drew = w46 at BK222 HB hHeld ⊢
   refine zR (i := 1) (N := some 16) (v := ?_) (a' := ?_) #[false, true, false, false, false, false, false, false, false, false, false, false, false, false, false, false, false, false] rfl rfl (zO HT_.out (by kernel_rfl)) (fun _ _ _ h => h) (Or.inl ⟨by rfl, ?_⟩) ?_ ?_
   rotate_left
   ·
    intro w'
    go_simp
    with_reducible rfl
   rotate_left
   ·
    go_simp
    rfl
   refine yC (i := 0) (N := some 15) (v := ?_) (a' := ?_) #[true, true, false, false, false, false, false, false, false, false, false, false, false, false, false, false, false, false] rfl rfl (zW HT_.out HW_.out (by kernel_rfl)) (fun _ _ _ h => h) (Or.inl ⟨by rfl, ?_⟩) hHeld ?_ ?_
   rotate_left
   ·
    rintro w' ⟨s0, s1, s2, s3, s4⟩
    go_simp
    with_reducible rfl
   rotate_left
   ·
    go_simp
    rfl
   refine join_ (σ := Nat) 2 #[true, true, true, true, true, true, true, true, true, true, true, true, true, true, true, true, false, false] (fun s_ => [(17, .bool false), (26, .tuple #[.agg #[.int .i64 t242, .int .i64 t243, .int .i64 t244], .int .i64 t245]), (10, .pointer (some ⟨s_, 0, none⟩)), (18, .bool false), (19, undef), (20, undef), (21, .bool false), (22, .bool false), (23, undef), (24, undef), (25, .bool false), (14, .tuple #[.agg #[.int .i64 t242, .int .i64 t243, .int .i64 t244], .int .i64 t245]), (27, .agg #[.int .i64 t242, .int .i64 t243, .int .i64 t244]), (28, .int .i64 t245)]) (fun s_ w' => (w'.cell? ⟨gb222, 0, none⟩ = some (.int .i64 a0_0) ∧ w'.cell? ⟨gb222, 1, none⟩ = some (.int .i64 a0_1) ∧ w'.cell? ⟨gb222, 2, none⟩ = some (.int .i64 a0_2) ∧ w'.cell? ⟨gb222, 3, none⟩ = some (.int .i64 a0_3) ∧ w'.cell? ⟨gb222, 4, none⟩ = some (.slice A0_4 l0_4.length c0_4)) ∧ (w'.heap[gb222]? = some (.cells #[.int .i64 a0_0, .int .i64 a0_1, .int .i64 a0_2, .int .i64 a0_3, .slice A0_4 l0_4.length c0_4] 32 (0, 0))) ∧ (w'.heap[s_]? = some (.cells #[.int .i64 0, .int .i64 0, .int .i64 0] 30 (0, 0))) ∧ (w.heap.size ≤ s_) ∧ (w.heap.size ≤ s_) ∧ (gb222 ≠ s_) ∧ (s_ ≠ gb222) ∧ (Below w.heap.size w w')) ?_ ?_
   rotate_left
   ·
    intro hCont
    refine two_ (i := 2) (j := 15) (Ni := some 17) (Nj := some 10) #[true, true, true, false, false, false, false, false, false, false, false, false, false, false, false, false, false, false] #[true, true, false, false, false, false, false, false, false, false, false, false, false, false, false, true, false, false] rfl rfl rfl rfl (two_of HT_.out (by kernel_rfl)) (by decide) (by decide) (fun K hK => ?_) (fun K hK => ?_)
    ·
     skip
     refine yD Try.func53 (by kernel_rfl) rfl #[.int .i64 a1, .int .i64 1, .int .i64 1000] (by rfl) rfl rfl (by (try simp only [List.map_toArray, List.map_cons, List.map_nil]); first | done | rfl) ?_
     with_reducible refine (xH.calls a1 1 1000 false _ A5.out).mono ?_
     rintro e w' ⟨rfl, ⟨nd, rfl⟩⟩
     refine ⟨_, rfl, ?_⟩
     refine hK.out _ _ ⟨zB BK222.out 0, zB BK222.out 1, zB BK222.out 2, zB BK222.out 3, zB BK222.out 4⟩ (fun hHeld => ?_)
     clear hK K
     refine yA (a' := ?_) ?_ ?_
     rotate_left
     ·
      show Act.put _ (some 17) _ = _
      go_simp
      rfl
     refine zR (i := 3) (N := some 18) (v := ?_) (a' := ?_) #[true, true, true, true, false, false, false, false, false, false, false, false, false, false, false, false, false, false] rfl rfl (zO HT_.out (by kernel_rfl)) (fun _ _ _ h => h) (Or.inl ⟨by rfl, ?_⟩) ?_ ?_
     rotate_left
     ·
      intro w'
      go_simp
      with_reducible rfl
     rotate_left
     ·
      go_simp
      rfl
     refine zR (i := 4) (N := some 19) (v := undef) (a' := ?_) #[true, true, true, true, true, false, false, false, false, false, false, false, false, false, false, false, false, false] rfl rfl (zO HT_.out (by kernel_rfl)) (fun _ _ _ h => h) (Or.inr ⟨by rfl, rfl⟩) ?_ ?_
     rotate_left
     ·
      go_simp
      rfl
     refine zR (i := 5) (N := some 20) (v := undef) (a' := ?_) #[true, true, true, true, true, true, false, false, false, false, false, false, false, false, false, false, false, false] rfl rfl (zO HT_.out (by kernel_rfl)) (fun _ _ _ h => h) (Or.inr ⟨by rfl, rfl⟩) ?_ ?_
     rotate_left
     ·
      go_simp
      rfl
     refine zR (i := 6) (N := some 21) (v := ?_) (a' := ?_) #[true, true, true, true, true, true, true, false, false, false, false, false, false, false, false, false, false, false] rfl rfl (zO HT_.out (by kernel_rfl)) (fun _ _ _ h => h) (Or.inl ⟨by rfl, ?_⟩) ?_ ?_
     rotate_left
     ·
      intro w'
      go_simp
      with_reducible rfl
     rotate_left
     ·
      go_simp
      rfl
     refine zR (i := 7) (N := some 22) (v := ?_) (a' := ?_) #[true, true, true, true, true, true, true, true, false, false, false, false, false, false, false, false, false, false] rfl rfl (zO HT_.out (by kernel_rfl)) (fun _ _ _ h => h) (Or.inl ⟨by rfl, ?_⟩) ?_ ?_
     rotate_left
     ·
      intro w'
      go_simp
      with_reducible rfl
     rotate_left
     ·
      go_simp
      rfl
     refine zR (i := 8) (N := some 23) (v := undef) (a' := ?_) #[true, true, true, true, true, true, true, true, true, false, false, false, false, false, false, false, false, false] rfl rfl (zO HT_.out (by kernel_rfl)) (fun _ _ _ h => h) (Or.inr ⟨by rfl, rfl⟩) ?_ ?_
     rotate_left
     ·
      go_simp
      rfl
     refine zR (i := 9) (N := some 24) (v := undef) (a' := ?_) #[true, true, true, true, true, true, true, true, true, true, false, false, false, false, false, false, false, false] rfl rfl (zO HT_.out (by kernel_rfl)) (fun _ _ _ h => h) (Or.inr ⟨by rfl, rfl⟩) ?_ ?_
     rotate_left
     ·
      go_simp
      rfl
     refine zR (i := 10) (N := some 25) (v := ?_) (a' := ?_) #[true, true, true, true, true, true, true, true, true, true, true, false, false, false, false, false, false, false] rfl rfl (zO HT_.out (by kernel_rfl)) (fun _ _ _ h => h) (Or.inl ⟨by rfl, ?_⟩) ?_ ?_
     rotate_left
     ·
      intro w'
      go_simp
      with_reducible rfl
     rotate_left
     ·
      go_simp
      rfl
     refine two_ (i := 11) (j := 15) (Ni := some 26) (Nj := some 10) #[true, true, true, true, true, true, true, true, true, true, true, true, false, false, false, false, false, false] #[true, true, true, true, true, true, true, true, true, true, true, false, false, false, false, true, false, false] rfl rfl rfl rfl (two_of HT_.out (by kernel_rfl)) (by decide) (by decide) (fun K hK => ?_) (fun K hK => ?_)
     ·
      skip
      refine yD Try.func52 (by kernel_rfl) rfl #[.agg #[.int .i64 a0_0, .int .i64 a0_1, .int .i64 a0_2, .int .i64 a0_3, .slice A0_4 l0_4.length c0_4], .bool false] (by rfl) rfl rfl (by (try simp only [List.map_toArray, List.map_cons, List.map_nil]); first | done | rfl) ?_
      with_reducible refine (yQ.calls k a0_0 a0_1 a0_2 a0_3 _ _ l0_4 false t242 t243 t244 t245 _ ?side1 ?side2 A43.out).mono ?_
      (case side1 => repeat (first | exact (Kd.C_below HR0_4.out (by repeat (first | (with_reducible first | exact HB.out | apply zG | apply zA | apply zD | refine zH ?_ GE222.out) | exact HB.out))) | (with_reducible refine Kd.C_alloc ?_ _) | (with_reducible refine Kd.C_drewN ?_ _) | (with_reducible refine Kd.C_drew ?_)))
      (case side2 => exact HC0_4.out)
      rintro e w47 ⟨rfl, hb⟩
      refine ⟨_, rfl, ?_⟩
      have n0_ := zC.mk (zK (g := gb222) (o := .cells #[.int .i64 a0_0, .int .i64 a0_1, .int .i64 a0_2, .int .i64 a0_3, .slice A0_4 l0_4.length c0_4] 32 (0, 0)) (by (with_reducible repeat (first | refine zF ?_ _ | refine zI ?_ | refine zE ?_ _)); exact BK222.out) hb)
      have n1_ := zC.mk (zL (by repeat (first | (with_reducible first | exact HB.out | apply zG | apply zA | apply zD | refine zH ?_ GE222.out) | exact HB.out)) hb)
      clear BK222
      clear HB
      have BK222 := n0_
      have HB := n1_
      clear n0_ n1_
      (try clear hb)
      refine hK.out _ _ ⟨zB BK222.out 0, zB BK222.out 1, zB BK222.out 2, zB BK222.out 3, zB BK222.out 4⟩ (fun hHeld => ?_)
      clear hK K
      refine yA (a' := ?_) ?_ ?_
      rotate_left
      ·
       show Act.put _ (some 26) _ = _
       go_simp
       rfl
      refine zR (i := 12) (N := some 14) (v := ?_) (a' := ?_) #[true, true, true, true, true, true, true, true, true, true, true, true, true, false, false, false, false, false] rfl rfl (zO HT_.out (by kernel_rfl)) (fun _ _ _ h => h) (Or.inl ⟨by rfl, ?_⟩) ?_ ?_
      rotate_left
      ·
       intro w'
       go_simp
       with_reducible rfl
      rotate_left
      ·
       go_simp
       rfl
      refine zR (i := 13) (N := some 27) (v := ?_) (a' := ?_) #[true, true, true, true, true, true, true, true, true, true, true, true, true, true, false, false, false, false] rfl rfl (zO HT_.out (by kernel_rfl)) (fun _ _ _ h => h) (Or.inl ⟨by rfl, ?_⟩) ?_ ?_
      rotate_left
      ·
       intro w'
       go_simp
       with_reducible rfl
      rotate_left
      ·
       go_simp
       rfl
      refine zR (i := 14) (N := some 28) (v := ?_) (a' := ?_) #[true, true, true, true, true, true, true, true, true, true, true, true, true, true, true, false, false, false] rfl rfl (zO HT_.out (by kernel_rfl)) (fun _ _ _ h => h) (Or.inl ⟨by rfl, ?_⟩) ?_ ?_
      rotate_left
      ·
       intro w'
       go_simp
       with_reducible rfl
      rotate_left
      ·
       go_simp
       rfl
      refine one_ (i := 15) (N := some 10) #[true, true, true, true, true, true, true, true, true, true, true, true, true, true, true, true, false, false] rfl rfl (yB HT_.out (by kernel_rfl)) (by decide) (fun K hK => ?_)
      refine box_step ?hg (N := 10) ?hd (cs := #[.int .i64 0, .int .i64 0, .int .i64 0]) (t := 30) ?hr ?_; (case hd => rfl); (case hg => rfl); (case hr => first | (go_simp; done) | (go_simp; rfl))
      intro gb246 hg w48 hbox hb
      have n0_ := zC.mk (zK (g := gb222) (o := .cells #[.int .i64 a0_0, .int .i64 a0_1, .int .i64 a0_2, .int .i64 a0_3, .slice A0_4 l0_4.length c0_4] 32 (0, 0)) (by (with_reducible repeat (first | refine zF ?_ _ | refine zI ?_ | refine zE ?_ _)); exact BK222.out) hb)
      have n1_ := zC.mk (zL (by repeat (first | (with_reducible first | exact HB.out | apply zG | apply zA | apply zD | refine zH ?_ GE222.out) | exact HB.out)) hb)
      have n2_ := zC.mk (hbox)
      have n3_ := zC.mk ((by rw [hg]; exact (zM (by repeat (first | (with_reducible first | exact HB.out | apply zG | apply zA | apply zD | refine zH ?_ GE222.out) | exact HB.out))) : w.heap.size ≤ gb246))
      have n4_ := zC.mk ((by rw [hg]; exact (zM (by repeat (first | (with_reducible first | exact HB.out | apply zG | apply zA | apply zD | refine zH ?_ GE222.out) | exact HB.out))) : w.heap.size ≤ gb246))
      have n5_ := zC.mk ((by rw [hg]; exact Nat.ne_of_lt (zV (by (with_reducible repeat (first | refine zF ?_ _ | refine zI ?_ | refine zE ?_ _)); exact BK222.out)) : gb222 ≠ gb246))
      have n6_ := zC.mk ((by rw [hg]; exact Nat.ne_of_gt (zV (by (with_reducible repeat (first | refine zF ?_ _ | refine zI ?_ | refine zE ?_ _)); exact BK222.out)) : gb246 ≠ gb222))
      clear BK222
      clear HB
      have BK222 := n0_
      have HB := n1_
      have BK246 := n2_
      have GW246 := n3_
      have GE246 := n4_
      have NB222_246 := n5_
      have NB246_222 := n6_
      clear n0_ n1_ n2_ n3_ n4_ n5_ n6_
      clear hb hbox hg
      refine hK.out _ _ ⟨zB BK222.out 0, zB BK222.out 1, zB BK222.out 2, zB BK222.out 3, zB BK222.out 4⟩ (fun hHeld => ?_)
      clear hK K
      refine yA (a' := ?_) ?_ ?_
      rotate_left
      ·
       show Act.put _ (some 10) _ = _
       go_simp
       rfl
      exact yA (by simp only [putAll, Act.put, List.setIfInBounds_toArray, List.set_cons_zero, List.set_cons_succ]) (hCont (gb246) _ ⟨hHeld, (by (with_reducible repeat (first | refine zF ?_ _ | refine zI ?_ | refine zE ?_ _)); exact BK222.out), (by (with_reducible repeat (first | refine zF ?_ _ | refine zI ?_ | refine zE ?_ _)); exact BK246.out), GW246.out, GE246.out, NB222_246.out, NB246_222.out, (by repeat (first | (with_reducible first | exact HB.out | apply zG | apply zA | apply zD | refine zH ?_ GE222.out | refine zH ?_ GE246.out) | exact HB.out))⟩)
     ·
      skip
      refine box_step ?hg (N := 10) ?hd (cs := #[.int .i64 0, .int .i64 0, .int .i64 0]) (t := 30) ?hr ?_; (case hd => rfl); (case hg => rfl); (case hr => first | (go_simp; done) | (go_simp; rfl))
      intro gb246 hg w47 hbox hb
      have n0_ := zC.mk (zK (g := gb222) (o := .cells #[.int .i64 a0_0, .int .i64 a0_1, .int .i64 a0_2, .int .i64 a0_3, .slice A0_4 l0_4.length c0_4] 32 (0, 0)) (by (with_reducible repeat (first | refine zF ?_ _ | refine zI ?_ | refine zE ?_ _)); exact BK222.out) hb)
      have n1_ := zC.mk (zL (by repeat (first | (with_reducible first | exact HB.out | apply zG | apply zA | apply zD | refine zH ?_ GE222.out) | exact HB.out)) hb)
      have n2_ := zC.mk (hbox)
      have n3_ := zC.mk ((by rw [hg]; exact (zM (by repeat (first | (with_reducible first | exact HB.out | apply zG | apply zA | apply zD | refine zH ?_ GE222.out) | exact HB.out))) : w.heap.size ≤ gb246))
      have n4_ := zC.mk ((by rw [hg]; exact (zM (by repeat (first | (with_reducible first | exact HB.out | apply zG | apply zA | apply zD | refine zH ?_ GE222.out) | exact HB.out))) : w.heap.size ≤ gb246))
      have n5_ := zC.mk ((by rw [hg]; exact Nat.ne_of_lt (zV (by (with_reducible repeat (first | refine zF ?_ _ | refine zI ?_ | refine zE ?_ _)); exact BK222.out)) : gb222 ≠ gb246))
      have n6_ := zC.mk ((by rw [hg]; exact Nat.ne_of_gt (zV (by (with_reducible repeat (first | refine zF ?_ _ | refine zI ?_ | refine zE ?_ _)); exact BK222.out)) : gb246 ≠ gb222))
      clear BK222
      clear HB
      have BK222 := n0_
      have HB := n1_
      have BK246 := n2_
      have GW246 := n3_
      have GE246 := n4_
      have NB222_246 := n5_
      have NB246_222 := n6_
      clear n0_ n1_ n2_ n3_ n4_ n5_ n6_
      clear hb hbox hg
      refine hK.out _ _ ⟨zB BK222.out 0, zB BK222.out 1, zB BK222.out 2, zB BK222.out 3, zB BK222.out 4⟩ (fun hHeld => ?_)
      clear hK K
      refine yA (a' := ?_) ?_ ?_
      rotate_left
      ·
       show Act.put _ (some 10) _ = _
       go_simp
       rfl
      refine one_ (i := 11) (N := some 26) #[true, true, true, true, true, true, true, true, true, true, true, true, false, false, false, true, false, false] rfl rfl (yB HT_.out (by kernel_rfl)) (by decide) (fun K hK => ?_)
      refine yD Try.func52 (by kernel_rfl) rfl #[.agg #[.int .i64 a0_0, .int .i64 a0_1, .int .i64 a0_2, .int .i64 a0_3, .slice A0_4 l0_4.length c0_4], .bool false] (by rfl) rfl rfl (by (try simp only [List.map_toArray, List.map_cons, List.map_nil]); first | done | rfl) ?_
      with_reducible refine (yQ.calls k a0_0 a0_1 a0_2 a0_3 _ _ l0_4 false t242 t243 t244 t245 _ ?side1 ?side2 A43.out).mono ?_
      (case side1 => repeat (first | exact (Kd.C_below HR0_4.out HB.out) | (with_reducible refine Kd.C_alloc ?_ _) | (with_reducible refine Kd.C_drewN ?_ _) | (with_reducible refine Kd.C_drew ?_)))
      (case side2 => exact HC0_4.out)
      rintro e w48 ⟨rfl, hb⟩
      refine ⟨_, rfl, ?_⟩
      have n0_ := zC.mk (zK (g := gb222) (o := .cells #[.int .i64 a0_0, .int .i64 a0_1, .int .i64 a0_2, .int .i64 a0_3, .slice A0_4 l0_4.length c0_4] 32 (0, 0)) (by (with_reducible repeat (first | refine zF ?_ _ | refine zI ?_ | refine zE ?_ _)); exact BK222.out) hb)
      have n1_ := zC.mk (zK (g := gb246) (o := .cells #[.int .i64 0, .int .i64 0, .int .i64 0] 30 (0, 0)) (by (with_reducible repeat (first | refine zF ?_ _ | refine zI ?_ | refine zE ?_ _)); exact BK246.out) hb)
      have n2_ := zC.mk (zL (by repeat (first | (with_reducible first | exact HB.out | apply zG | apply zA | apply zD | refine zH ?_ GE222.out | refine zH ?_ GE246.out) | exact HB.out)) hb)
      clear BK222
      clear BK246
      clear HB
      have BK222 := n0_
      have BK246 := n1_
      have HB := n2_
      clear n0_ n1_ n2_
      (try clear hb)
      refine hK.out _ _ ⟨zB BK222.out 0, zB BK222.out 1, zB BK222.out 2, zB BK222.out 3, zB BK222.out 4⟩ (fun hHeld => ?_)
      clear hK K
      refine yA (a' := ?_) ?_ ?_
      rotate_left
      ·
       show Act.put _ (some 26) _ = _
       go_simp
       rfl
      refine zR (i := 12) (N := some 14) (v := ?_) (a' := ?_) #[true, true, true, true, true, true, true, true, true, true, true, true, true, false, false, true, false, false] rfl rfl (zO HT_.out (by kernel_rfl)) (fun _ _ _ h => h) (Or.inl ⟨by rfl, ?_⟩) ?_ ?_
      rotate_left
      ·
       intro w'
       go_simp
       with_reducible rfl
      rotate_left
      ·
       go_simp
       rfl
      refine zR (i := 13) (N := some 27) (v := ?_) (a' := ?_) #[true, true, true, true, true, true, true, true, true, true, true, true, true, true, false, true, false, false] rfl rfl (zO HT_.out (by kernel_rfl)) (fun _ _ _ h => h) (Or.inl ⟨by rfl, ?_⟩) ?_ ?_
      rotate_left
      ·
       intro w'
       go_simp
       with_reducible rfl
      rotate_left
      ·
       go_simp
       rfl
      refine zR (i := 14) (N := some 28) (v := ?_) (a' := ?_) #[true, true, true, true, true, true, true, true, true, true, true, true, true, true, true, true, false, false] rfl rfl (zO HT_.out (by kernel_rfl)) (fun _ _ _ h => h) (Or.inl ⟨by rfl, ?_⟩) ?_ ?_
      rotate_left
      ·
       intro w'
       go_simp
       with_reducible rfl
      rotate_left
      ·
       go_simp
       rfl
      exact yA (by simp only [putAll, Act.put, List.setIfInBounds_toArray, List.set_cons_zero, List.set_cons_succ]) (hCont (gb246) _ ⟨hHeld, (by (with_reducible repeat (first | refine zF ?_ _ | refine zI ?_ | refine zE ?_ _)); exact BK222.out), (by (with_reducible repeat (first | refine zF ?_ _ | refine zI ?_ | refine zE ?_ _)); exact BK246.out), GW246.out, GE246.out, NB222_246.out, NB246_222.out, (by repeat (first | (with_reducible first | exact HB.out | apply zG | apply zA | apply zD | refine zH ?_ GE222.out | refine zH ?_ GE246.out) | exact HB.out))⟩)
    ·
     skip
     refine box_step ?hg (N := 10) ?hd (cs := #[.int .i64 0, .int .i64 0, .int .i64 0]) (t := 30) ?hr ?_; (case hd => rfl); (case hg => rfl); (case hr => first | (go_simp; done) | (go_simp; rfl))
     intro gb246 hg w47 hbox hb
     have n0_ := zC.mk (zK (g := gb222) (o := .cells #[.int .i64 a0_0, .int .i64 a0_1, .int .i64 a0_2, .int .i64 a0_3, .slice A0_4 l0_4.length c0_4] 32 (0, 0)) (by (with_reducible repeat (first | refine zF ?_ _ | refine zI ?_ | refine zE ?_ _)); exact BK222.out) hb)
     have n1_ := zC.mk (zL (by repeat (first | (with_reducible first | exact HB.out | apply zG | apply zA | apply zD | refine zH ?_ GE222.out) | exact HB.out)) hb)
     have n2_ := zC.mk (hbox)
     have n3_ := zC.mk ((by rw [hg]; exact (zM (by repeat (first | (with_reducible first | exact HB.out | apply zG | apply zA | apply zD | refine zH ?_ GE222.out) | exact HB.out))) : w.heap.size ≤ gb246))
     have n4_ := zC.mk ((by rw [hg]; exact (zM (by repeat (first | (with_reducible first | exact HB.out | apply zG | apply zA | apply zD | refine zH ?_ GE222.out) | exact HB.out))) : w.heap.size ≤ gb246))
     have n5_ := zC.mk ((by rw [hg]; exact Nat.ne_of_lt (zV (by (with_reducible repeat (first | refine zF ?_ _ | refine zI ?_ | refine zE ?_ _)); exact BK222.out)) : gb222 ≠ gb246))
     have n6_ := zC.mk ((by rw [hg]; exact Nat.ne_of_gt (zV (by (with_reducible repeat (first | refine zF ?_ _ | refine zI ?_ | refine zE ?_ _)); exact BK222.out)) : gb246 ≠ gb222))
     clear BK222
     clear HB
     have BK222 := n0_
     have HB := n1_
     have BK246 := n2_
     have GW246 := n3_
     have GE246 := n4_
     have NB222_246 := n5_
     have NB246_222 := n6_
     clear n0_ n1_ n2_ n3_ n4_ n5_ n6_
     clear hb hbox hg
     refine hK.out _ _ ⟨zB BK222.out 0, zB BK222.out 1, zB BK222.out 2, zB BK222.out 3, zB BK222.out 4⟩ (fun hHeld => ?_)
     clear hK K
     refine yA (a' := ?_) ?_ ?_
     rotate_left
     ·
      show Act.put _ (some 10) _ = _
      go_simp
      rfl
     refine one_ (i := 2) (N := some 17) #[true, true, true, false, false, false, false, false, false, false, false, false, false, false, false, true, false, false] rfl rfl (yB HT_.out (by kernel_rfl)) (by decide) (fun K hK => ?_)
     refine yD Try.func53 (by kernel_rfl) rfl #[.int .i64 a1, .int .i64 1, .int .i64 1000] (by rfl) rfl rfl (by (try simp only [List.map_toArray, List.map_cons, List.map_nil]); first | done | rfl) ?_
     with_reducible refine (xH.calls a1 1 1000 false _ A5.out).mono ?_
     rintro e w' ⟨rfl, ⟨nd, rfl⟩⟩
     refine ⟨_, rfl, ?_⟩
     refine hK.out _ _ ⟨zB BK222.out 0, zB BK222.out 1, zB BK222.out 2, zB BK222.out 3, zB BK222.out 4⟩ (fun hHeld => ?_)
     clear hK K
     refine yA (a' := ?_) ?_ ?_
     rotate_left
     ·
      show Act.put _ (some 17) _ = _
      go_simp
      rfl
     refine zR (i := 3) (N := some 18) (v := ?_) (a' := ?_) #[true, true, true, true, false, false, false, false, false, false, false, false, false, false, false, true, false, false] rfl rfl (zO HT_.out (by kernel_rfl)) (fun _ _ _ h => h) (Or.inl ⟨by rfl, ?_⟩) ?_ ?_
     rotate_left
     ·
      intro w'
      go_simp
      with_reducible rfl
     rotate_left
     ·
      go_simp
      rfl
     refine zR (i := 4) (N := some 19) (v := undef) (a' := ?_) #[true, true, true, true, true, false, false, false, false, false, false, false, false, false, false, true, false, false] rfl rfl (zO HT_.out (by kernel_rfl)) (fun _ _ _ h => h) (Or.inr ⟨by rfl, rfl⟩) ?_ ?_
     rotate_left
     ·
      go_simp
      rfl
     refine zR (i := 5) (N := some 20) (v := undef) (a' := ?_) #[true, true, true, true, true, true, false, false, false, false, false, false, false, false, false, true, false, false] rfl rfl (zO HT_.out (by kernel_rfl)) (fun _ _ _ h => h) (Or.inr ⟨by rfl, rfl⟩) ?_ ?_
     rotate_left
     ·
      go_simp
      rfl
     refine zR (i := 6) (N := some 21) (v := ?_) (a' := ?_) #[true, true, true, true, true, true, true, false, false, false, false, false, false, false, false, true, false, false] rfl rfl (zO HT_.out (by kernel_rfl)) (fun _ _ _ h => h) (Or.inl ⟨by rfl, ?_⟩) ?_ ?_
     rotate_left
     ·
      intro w'
      go_simp
      with_reducible rfl
     rotate_left
     ·
      go_simp
      rfl
     refine zR (i := 7) (N := some 22) (v := ?_) (a' := ?_) #[true, true, true, true, true, true, true, true, false, false, false, false, false, false, false, true, false, false] rfl rfl (zO HT_.out (by kernel_rfl)) (fun _ _ _ h => h) (Or.inl ⟨by rfl, ?_⟩) ?_ ?_
     rotate_left
     ·
      intro w'
      go_simp
      with_reducible rfl
     rotate_left
     ·
      go_simp
      rfl
     refine zR (i := 8) (N := some 23) (v := undef) (a' := ?_) #[true, true, true, true, true, true, true, true, true, false, false, false, false, false, false, true, false, false] rfl rfl (zO HT_.out (by kernel_rfl)) (fun _ _ _ h => h) (Or.inr ⟨by rfl, rfl⟩) ?_ ?_
     rotate_left
     ·
      go_simp
      rfl
     refine zR (i := 9) (N := some 24) (v := undef) (a' := ?_) #[true, true, true, true, true, true, true, true, true, true, false, false, false, false, false, true, false, false] rfl rfl (zO HT_.out (by kernel_rfl)) (fun _ _ _ h => h) (Or.inr ⟨by rfl, rfl⟩) ?_ ?_
     rotate_left
     ·
      go_simp
      rfl
     refine zR (i := 10) (N := some 25) (v := ?_) (a' := ?_) #[true, true, true, true, true, true, true, true, true, true, true, false, false, false, false, true, false, false] rfl rfl (zO HT_.out (by kernel_rfl)) (fun _ _ _ h => h) (Or.inl ⟨by rfl, ?_⟩) ?_ ?_
     rotate_left
     ·
      intro w'
      go_simp
      with_reducible rfl
     rotate_left
     ·
      go_simp
      rfl
     refine one_ (i := 11) (N := some 26) #[true, true, true, true, true, true, true, true, true, true, true, true, false, false, false, true, false, false] rfl rfl (yB HT_.out (by kernel_rfl)) (by decide) (fun K hK => ?_)
     refine yD Try.func52 (by kernel_rfl) rfl #[.agg #[.int .i64 a0_0, .int .i64 a0_1, .int .i64 a0_2, .int .i64 a0_3, .slice A0_4 l0_4.length c0_4], .bool false] (by rfl) rfl rfl (by (try simp only [List.map_toArray, List.map_cons, List.map_nil]); first | done | rfl) ?_
     with_reducible refine (yQ.calls k a0_0 a0_1 a0_2 a0_3 _ _ l0_4 false t242 t243 t244 t245 _ ?side1 ?side2 A43.out).mono ?_
     (case side1 => repeat (first | exact (Kd.C_below HR0_4.out (by repeat (first | (with_reducible first | exact HB.out | apply zG | apply zA | apply zD | refine zH ?_ GE222.out | refine zH ?_ GE246.out) | exact HB.out))) | (with_reducible refine Kd.C_alloc ?_ _) | (with_reducible refine Kd.C_drewN ?_ _) | (with_reducible refine Kd.C_drew ?_)))
     (case side2 => exact HC0_4.out)
     rintro e w48 ⟨rfl, hb⟩
     refine ⟨_, rfl, ?_⟩
     have n0_ := zC.mk (zK (g := gb222) (o := .cells #[.int .i64 a0_0, .int .i64 a0_1, .int .i64 a0_2, .int .i64 a0_3, .slice A0_4 l0_4.length c0_4] 32 (0, 0)) (by (with_reducible repeat (first | refine zF ?_ _ | refine zI ?_ | refine zE ?_ _)); exact BK222.out) hb)
     have n1_ := zC.mk (zK (g := gb246) (o := .cells #[.int .i64 0, .int .i64 0, .int .i64 0] 30 (0, 0)) (by (with_reducible repeat (first | refine zF ?_ _ | refine zI ?_ | refine zE ?_ _)); exact BK246.out) hb)
     have n2_ := zC.mk (zL (by repeat (first | (with_reducible first | exact HB.out | apply zG | apply zA | apply zD | refine zH ?_ GE222.out | refine zH ?_ GE246.out) | exact HB.out)) hb)
     clear BK222
     clear BK246
     clear HB
     have BK222 := n0_
     have BK246 := n1_
     have HB := n2_
     clear n0_ n1_ n2_
     (try clear hb)
     refine hK.out _ _ ⟨zB BK222.out 0, zB BK222.out 1, zB BK222.out 2, zB BK222.out 3, zB BK222.out 4⟩ (fun hHeld => ?_)
     clear hK K
     refine yA (a' := ?_) ?_ ?_
     rotate_left
     ·
      show Act.put _ (some 26) _ = _
      go_simp
      rfl
     refine zR (i := 12) (N := some 14) (v := ?_) (a' := ?_) #[true, true, true, true, true, true, true, true, true, true, true, true, true, false, false, true, false, false] rfl rfl (zO HT_.out (by kernel_rfl)) (fun _ _ _ h => h) (Or.inl ⟨by rfl, ?_⟩) ?_ ?_
     rotate_left
     ·
      intro w'
      go_simp
      with_reducible rfl
     rotate_left
     ·
      go_simp
      rfl
     refine zR (i := 13) (N := some 27) (v := ?_) (a' := ?_) #[true, true, true, true, true, true, true, true, true, true, true, true, true, true, false, true, false, false] rfl rfl (zO HT_.out (by kernel_rfl)) (fun _ _ _ h => h) (Or.inl ⟨by rfl, ?_⟩) ?_ ?_
     rotate_left
     ·
      intro w'
      go_simp
      with_reducible rfl
     rotate_left
     ·
      go_simp
      rfl
     refine zR (i := 14) (N := some 28) (v := ?_) (a' := ?_) #[true, true, true, true, true, true, true, true, true, true, true, true, true, true, true, true, false, false] rfl rfl (zO HT_.out (by kernel_rfl)) (fun _ _ _ h => h) (Or.inl ⟨by rfl, ?_⟩) ?_ ?_
     rotate_left
     ·
      intro w'
      go_simp
      with_reducible rfl
     rotate_left
     ·
      go_simp
      rfl
     exact yA (by simp only [putAll, Act.put, List.setIfInBounds_toArray, List.set_cons_zero, List.set_cons_succ]) (hCont (gb246) _ ⟨hHeld, (by (with_reducible repeat (first | refine zF ?_ _ | refine zI ?_ | refine zE ?_ _)); exact BK222.out), (by (with_reducible repeat (first | refine zF ?_ _ | refine zI ?_ | refine zE ?_ _)); exact BK246.out), GW246.out, GE246.out, NB222_246.out, NB246_222.out, (by repeat (first | (with_reducible first | exact HB.out | apply zG | apply zA | apply zD | refine zH ?_ GE222.out | refine zH ?_ GE246.out) | exact HB.out))⟩)
   rintro gb246 w49 ⟨hS_, h0_, h1_, h2_, h3_, h4_, h5_, h6_⟩
   have n0_ : zC (w49.heap[gb222]? = some (.cells #[.int .i64 a0_0, .int .i64 a0_1, .int .i64 a0_2, .int .i64 a0_3, .slice A0_4 l0_4.length c0_4] 32 (0, 0))) := ⟨h0_⟩
   have n1_ : zC (w49.heap[gb246]? = some (.cells #[.int .i64 0, .int .i64 0, .int .i64 0] 30 (0, 0))) := ⟨h1_⟩
   have n2_ : zC (w.heap.size ≤ gb246) := ⟨h2_⟩
   have n3_ : zC (w.heap.size ≤ gb246) := ⟨h3_⟩
   have n4_ : zC (gb222 ≠ gb246) := ⟨h4_⟩
   have n5_ : zC (gb246 ≠ gb222) := ⟨h5_⟩
   have n6_ : zC (Below w.heap.size w w49) := ⟨h6_⟩
   clear BK222
   clear HB
   clear h0_ h1_ h2_ h3_ h4_ h5_ h6_
   have BK222 := n0_
   have BK246 := n1_
   have GW246 := n2_
   have GE246 := n3_
   have NB222_246 := n4_
   have NB246_222 := n5_
   have HB := n6_
   clear n0_ n1_ n2_ n3_ n4_ n5_ n6_
   have hHeld : w49.cell? ⟨gb222, 0, none⟩ = some (.int .i64 a0_0) ∧ w49.cell? ⟨gb222, 1, none⟩ = some (.int .i64 a0_1) ∧ w49.cell? ⟨gb222, 2, none⟩ = some (.int .i64 a0_2) ∧ w49.cell? ⟨gb222, 3, none⟩ = some (.int .i64 a0_3) ∧ w49.cell? ⟨gb222, 4, none⟩ = some (.slice A0_4 l0_4.length c0_4) := hS_
   refine yA (a' := ?_) ?_ ?_
   rotate_left
   ·
    simp only [putAll, Act.put, List.setIfInBounds_toArray, List.set_cons_zero, List.set_cons_succ]
    rfl
   refine one_ (i := 16) (N := none) #[true, true, true, true, true, true, true, true, true, true, true, true, true, true, true, true, true, false] rfl rfl (yB HT_.out (by kernel_rfl)) (by decide) (fun K hK => ?_)
   have hs50 : w49.cell? ⟨gb246, 0, none⟩ = some (.int .i64 0) := zB BK246.out 0
   have hfs50 := zJ BK246.out 0
   have hns50_0 := NB222_246.out
   have hms50_0 := NB246_222.out
   have hs51 : w49.cell? ⟨gb246, 1, none⟩ = some (.int .i64 0) := zB BK246.out 1
   have hfs51 := zJ BK246.out 1
   have hns51_0 := NB222_246.out
   have hms51_0 := NB246_222.out
   have hs52 : w49.cell? ⟨gb246, 2, none⟩ = some (.int .i64 0) := zB BK246.out 2
   have hfs52 := zJ BK246.out 2
   have hns52_0 := NB222_246.out
   have hms52_0 := NB246_222.out
   refine skip_ (w1 := ?_) (by rfl) rfl ?_ ?_
   rotate_left
   ·
    go_simp
    rfl
   refine hK.out _ _ ⟨((zT (p := ⟨gb246, _, none⟩) NB222_246.out _).trans (((zT (p := ⟨gb246, _, none⟩) NB222_246.out _).trans (((zT (p := ⟨gb246, _, none⟩) NB222_246.out _).trans (hHeld.1)))))), ((zT (p := ⟨gb246, _, none⟩) NB222_246.out _).trans (((zT (p := ⟨gb246, _, none⟩) NB222_246.out _).trans (((zT (p := ⟨gb246, _, none⟩) NB222_246.out _).trans (hHeld.2.1)))))), ((zT (p := ⟨gb246, _, none⟩) NB222_246.out _).trans (((zT (p := ⟨gb246, _, none⟩) NB222_246.out _).trans (((zT (p := ⟨gb246, _, none⟩) NB222_246.out _).trans (hHeld.2.2.1)))))), ((zT (p := ⟨gb246, _, none⟩) NB222_246.out _).trans (((zT (p := ⟨gb246, _, none⟩) NB222_246.out _).trans (((zT (p := ⟨gb246, _, none⟩) NB222_246.out _).trans (hHeld.2.2.2.1)))))), ((zT (p := ⟨gb246, _, none⟩) NB222_246.out _).trans (((zT (p := ⟨gb246, _, none⟩) NB222_246.out _).trans (((zT (p := ⟨gb246, _, none⟩) NB222_246.out _).trans (hHeld.2.2.2.2))))))⟩ (fun hHeld => ?_)
   clear hK K
   refine zR (i := 17) (N := some 11) (v := ?_) (a' := ?_) #[true, true, true, true, true, true, true, true, true, true, true, true, true, true, true, true, true, true] rfl rfl (zO HT_.out (by kernel_rfl)) (fun _ _ _ h => h) (Or.inl ⟨by rfl, ?_⟩) ?_ ?_
   rotate_left
   ·
    intro w'
    go_simp
    with_reducible rfl
   rotate_left
   ·
    go_simp
    rfl
   refine done_ (done_of HT_.out (by kernel_rfl)) ?_
   try go_wp2
   go_ret2
   exact ⟨_, by first | rfl | (simp [*, errW_none, errW_some] <;> rfl), by first | exact Kd.R_nil _ _ _ _ _ | exact Kd.N_nil _ _ _ _ _ | exact Kd.V_nil _ _ _ _ _ | exact Kd.Q_nil _ _ _ _ _ | exact Kd.S_nil _ _ _ _ _, by repeat (first | (with_reducible first | exact HB.out | apply zG | apply zA | apply zD | refine zH ?_ GE222.out | refine zH ?_ GE246.out) | exact HB.out)⟩


/-! ### xM: function 13 -/
theorem xM.calls (k : Nat) (a0_0 : Int) (a0_1 : Int) (a0_2 : Int) (a0_3 : Int) (A0_4 : Option Addr) (c0_4 : Nat) (l0_4 : List Int) (a1 : Int) (a2 : Int) (a3 : Int) (r1 : Int) (r2 : Int) (w : World) (hr0_4 : Kd.C (Kd.int .i64) w A0_4 l0_4.length l0_4) (hc0_4 : l0_4.length ≤ c0_4) (h : xM.f k a0_0 a0_1 a0_2 a0_3 l0_4 a1 a2 a3 = some (r1, r2)) :
  Calls Try.prog 13 #[.agg #[.int .i64 a0_0, .int .i64 a0_1, .int .i64 a0_2, .int .i64 a0_3, .slice A0_4 l0_4.length c0_4], .int .i64 a1, .int .i64 a2, .int .i64 a3] w fun e w' => e = .returned (.tuple #[.int .i64 r1, .int .i64 r2]) ∧ Below w.heap.size w w' := by
 have hu32 := Try.underlying32
 have HR0_4 := zC.mk hr0_4
 have HC0_4 := zC.mk hc0_4
 clear hr0_4 hc0_4
 have HB := zC.mk (Below.refl w.heap.size w)
 have H : ((xB.f k a0_0 a0_1 a0_2 a0_3 l0_4 a1 a2 a3).bind fun bt248 => (if bt248.2 = 0 then (if 0 ≤ (wrap64 (a3 - 1)) then (if (wrap64 (a3 - 1)) < (bt248.1.length : Int) then (some (wrap64 ((rd bt248.1 (wrap64 (a3 - 1))) + a2), 0)) else (none)) else (none)) else (some (0, bt248.2)))) = some (r1, r2) := h
 clear h
 replace H := Option.bind_eq_some_iff.mp H
 obtain ⟨⟨t248, t251⟩, A50, H⟩ := H
 replace H : (if t251 = 0 then (if 0 ≤ (wrap64 (a3 - 1)) then (if (wrap64 (a3 - 1)) < (t248.length : Int) then (some (wrap64 ((rd t248 (wrap64 (a3 - 1))) + a2), 0)) else (none)) else (none)) else (some (0, t251))) = some (r1, r2) := H
 have A5 := zC.mk A50
 clear A50
 by_cases c6 : t251 = 0
 ·
  rw [if_pos c6] at H
  have c6b0 : (t251 == 0) = true := beq_iff_eq.mpr c6
  have c6b1 : (t251 != 0) = false := bne_eq_false_iff_eq.mpr c6
  clear c6
  obtain ⟨ji7, hji7⟩ : ∃ j_ : Int, (wrap64 (a3 - 1)) = j_ := ⟨_, rfl⟩
  replace H : (if 0 ≤ (ji7) then (if (ji7) < (t248.length : Int) then (some (wrap64 ((rd t248 (ji7)) + a2), 0)) else (none)) else (none)) = some (r1, r2) := by first | (rw [hji7] at H; exact H) | (simp only [hji7] at H ⊢; exact H)
  (try rw [hji7] at A5)
  have hji7w : (IntKind.i64.wrap (a3 - 1)) = ji7 := (zY _).trans hji7
  by_cases c8 : 0 ≤ (ji7)
  ·
   rw [if_pos c8] at H
   have c8b0 : decide (0 ≤ (ji7)) = true := decide_eq_true c8
   clear c8
   by_cases c9 : (ji7) < (t248.length : Int)
   ·
    rw [if_pos c9] at H
    have c9b0 : decide ((ji7) < (t248.length : Int)) = true := decide_eq_true c9
    clear c9
    simp only [Option.some.injEq, Prod.mk.injEq] at H
    obtain ⟨rfl, rfl⟩ := H
    go_enter Try.func13, Try.ntmps13
    go_wp2_with (first | ((with_reducible refine zP (N := 4) rfl ?_); refine zN ?hg (N := 4) ?hd (cs := #[.int .i64 a0_0, .int .i64 a0_1, .int .i64 a0_2, .int .i64 a0_3, .slice A0_4 l0_4.length c0_4]) (t := 32) ?hr ?_; (case hd => rfl); (case hg => rfl); (case hr => first | (go_simp; done) | (go_simp; rfl)); intro gb247 hg w10 hbox hb; have n0_ := zC.mk (zL (by repeat (first | (with_reducible first | exact HB.out | apply zG | apply zA | apply zD) | exact HB.out)) hb); have n1_ := zC.mk (hbox); have n2_ := zC.mk ((by rw [hg]; exact (zM (by repeat (first | (with_reducible first | exact HB.out | apply zG | apply zA | apply zD) | exact HB.out))) : w.heap.size ≤ gb247)); have n3_ := n2_; clear HB; have HB := n0_; have BK247 := n1_; have GW247 := n2_; have GE247 := n3_; clear n0_ n1_ n2_ n3_; clear hb hbox hg; have hcz11_0 : w10.cell? ⟨gb247, 0, none⟩ = some (.int .i64 a0_0) := zB BK247.out 0; have hcz11_1 : w10.cell? ⟨gb247, 1, none⟩ = some (.int .i64 a0_1) := zB BK247.out 1; have hcz11_2 : w10.cell? ⟨gb247, 2, none⟩ = some (.int .i64 a0_2) := zB BK247.out 2; have hcz11_3 : w10.cell? ⟨gb247, 3, none⟩ = some (.int .i64 a0_3) := zB BK247.out 3; have hcz11_4 : w10.cell? ⟨gb247, 4, none⟩ = some (.slice A0_4 l0_4.length c0_4) := zB BK247.out 4; have hfz11_0 := zJ BK247.out 0; have hfz11_1 := zJ BK247.out 1; have hfz11_2 := zJ BK247.out 2; have hfz11_3 := zJ BK247.out 3; have hfz11_4 := zJ BK247.out 4) | ((with_reducible refine zQ (f := 17) rfl ?_); refine zX (some 17) rfl rfl Try.func17 (by kernel_rfl) rfl #[.agg #[.int .i64 a0_0, .int .i64 a0_1, .int .i64 a0_2, .int .i64 a0_3, .slice A0_4 l0_4.length c0_4], .int .i64 a1, .int .i64 a2, .int .i64 a3] rfl (by (try simp only [List.map_toArray, List.map_cons, List.map_nil]); first | done | rfl) ?_; (with_reducible refine (xB.calls k a0_0 a0_1 a0_2 a0_3 _ _ l0_4 a1 a2 a3 t248 t251 _ ?side1 ?side2 A5.out).mono ?_); (case side1 => repeat (first | exact (Kd.C_below HR0_4.out HB.out) | (with_reducible refine Kd.C_alloc ?_ _) | (with_reducible refine Kd.C_drewN ?_ _) | (with_reducible refine Kd.C_drew ?_))); (case side2 => exact HC0_4.out); rintro e w12 ⟨v249, rfl, ho0, hb⟩; refine ⟨_, rfl, ?_⟩; have n0_ := zC.mk (Kd.R_lower ho0 (zM (by repeat (first | (with_reducible first | exact HB.out | apply zG | apply zA | apply zD | refine zH ?_ GE247.out) | exact HB.out)))); have n1_ := zC.mk (zK (g := gb247) (o := .cells #[.int .i64 a0_0, .int .i64 a0_1, .int .i64 a0_2, .int .i64 a0_3, .slice A0_4 l0_4.length c0_4] 32 (0, 0)) (by (with_reducible repeat (first | refine zF ?_ _ | refine zI ?_ | refine zE ?_ _)); exact BK247.out) hb); have n2_ := zC.mk (zL (by repeat (first | (with_reducible first | exact HB.out | apply zG | apply zA | apply zD | refine zH ?_ GE247.out) | exact HB.out)) hb); clear BK247; clear HB; have HO250 := n0_; have BK247 := n1_; have HB := n2_; clear n0_ n1_ n2_; (try clear hb); (try clear ho0); obtain ⟨Ao13, co13, eo13⟩ := Kd.R_slice HO250.out; subst eo13; have p252 : 0 ≤ ((ji7) : Int) := of_decide_eq_true (by first | (with_reducible assumption) | assumption); have q252 : (ji7) < (t248.length : Int) := of_decide_eq_true (by first | (with_reducible assumption) | assumption); obtain ⟨ad252, e252, hx252_0⟩ := Kd.at_int (Kd.R_reads' HO250.out).2.2 (ji7) p252 q252; cases e252; replace p252 := eq_true p252; replace q252 := eq_true q252))
    go_ret2
    exact ⟨by first | rfl | (simp [errW_none, errW_some] <;> rfl) | (simp only [← hji7]; first | rfl | (simp [errW_none, errW_some] <;> rfl)) | (simp [*, errW_none, errW_some] <;> rfl), by repeat (first | (with_reducible first | exact HB.out | apply zG | apply zA | apply zD | refine zH ?_ GE247.out) | exact HB.out)⟩
   ·
    rw [if_neg c9] at H
    exact absurd H (by simp)
  ·
   rw [if_neg c8] at H
   exact absurd H (by simp)
 ·
  rw [if_neg c6] at H
  have c6b0 : (t251 == 0) = false := beq_eq_false_iff_ne.mpr c6
  have c6b1 : (t251 != 0) = true := bne_iff_ne.mpr c6
  simp only [Option.some.injEq, Prod.mk.injEq] at H
  obtain ⟨rfl, rfl⟩ := H
  go_enter Try.func13, Try.ntmps13
  go_wp2_with (first | ((with_reducible refine zP (N := 4) rfl ?_); refine zN ?hg (N := 4) ?hd (cs := #[.int .i64 a0_0, .int .i64 a0_1, .int .i64 a0_2, .int .i64 a0_3, .slice A0_4 l0_4.length c0_4]) (t := 32) ?hr ?_; (case hd => rfl); (case hg => rfl); (case hr => first | (go_simp; done) | (go_simp; rfl)); intro gb247 hg w14 hbox hb; have n0_ := zC.mk (zL (by repeat (first | (with_reducible first | exact HB.out | apply zG | apply zA | apply zD) | exact HB.out)) hb); have n1_ := zC.mk (hbox); have n2_ := zC.mk ((by rw [hg]; exact (zM (by repeat (first | (with_reducible first | exact HB.out | apply zG | apply zA | apply zD) | exact HB.out))) : w.heap.size ≤ gb247)); have n3_ := n2_; clear HB; have HB := n0_; have BK247 := n1_; have GW247 := n2_; have GE247 := n3_; clear n0_ n1_ n2_ n3_; clear hb hbox hg; have hcz15_0 : w14.cell? ⟨gb247, 0, none⟩ = some (.int .i64 a0_0) := zB BK247.out 0; have hcz15_1 : w14.cell? ⟨gb247, 1, none⟩ = some (.int .i64 a0_1) := zB BK247.out 1; have hcz15_2 : w14.cell? ⟨gb247, 2, none⟩ = some (.int .i64 a0_2) := zB BK247.out 2; have hcz15_3 : w14.cell? ⟨gb247, 3, none⟩ = some (.int .i64 a0_3) := zB BK247.out 3; have hcz15_4 : w14.cell? ⟨gb247, 4, none⟩ = some (.slice A0_4 l0_4.length c0_4) := zB BK247.out 4; have hfz15_0 := zJ BK247.out 0; have hfz15_1 := zJ BK247.out 1; have hfz15_2 := zJ BK247.out 2; have hfz15_3 := zJ BK247.out 3; have hfz15_4 := zJ BK247.out 4) | ((with_reducible refine zQ (f := 17) rfl ?_); refine zX (some 17) rfl rfl Try.func17 (by kernel_rfl) rfl #[.agg #[.int .i64 a0_0, .int .i64 a0_1, .int .i64 a0_2, .int .i64 a0_3, .slice A0_4 l0_4.length c0_4], .int .i64 a1, .int .i64 a2, .int .i64 a3] rfl (by (try simp only [List.map_toArray, List.map_cons, List.map_nil]); first | done | rfl) ?_; (with_reducible refine (xB.calls k a0_0 a0_1 a0_2 a0_3 _ _ l0_4 a1 a2 a3 t248 t251 _ ?side1 ?side2 A5.out).mono ?_); (case side1 => repeat (first | exact (Kd.C_below HR0_4.out HB.out) | (with_reducible refine Kd.C_alloc ?_ _) | (with_reducible refine Kd.C_drewN ?_ _) | (with_reducible refine Kd.C_drew ?_))); (case side2 => exact HC0_4.out); rintro e w16 ⟨v249, rfl, ho0, hb⟩; refine ⟨_, rfl, ?_⟩; have n0_ := zC.mk (Kd.R_lower ho0 (zM (by repeat (first | (with_reducible first | exact HB.out | apply zG | apply zA | apply zD | refine zH ?_ GE247.out) | exact HB.out)))); have n1_ := zC.mk (zK (g := gb247) (o := .cells #[.int .i64 a0_0, .int .i64 a0_1, .int .i64 a0_2, .int .i64 a0_3, .slice A0_4 l0_4.length c0_4] 32 (0, 0)) (by (with_reducible repeat (first | refine zF ?_ _ | refine zI ?_ | refine zE ?_ _)); exact BK247.out) hb); have n2_ := zC.mk (zL (by repeat (first | (with_reducible first | exact HB.out | apply zG | apply zA | apply zD | refine zH ?_ GE247.out) | exact HB.out)) hb); clear BK247; clear HB; have HO250 := n0_; have BK247 := n1_; have HB := n2_; clear n0_ n1_ n2_; (try clear hb); (try clear ho0)))
  go_ret2
  exact ⟨by first | rfl | (simp [*, errW_none, errW_some] <;> rfl), by repeat (first | (with_reducible first | exact HB.out | apply zG | apply zA | apply zD | refine zH ?_ GE247.out) | exact HB.out)⟩


/-! ### wR: function 26 -/
theorem wR.calls (a0_0 : Int) (a0_1 : Int) (a0_2 : Int) (r1 : Int) (r2 : Int) (r3 : Int) (w : World) (h : wR.f a0_0 a0_1 a0_2 = some (r1, r2, r3)) :
  Calls Try.prog 26 #[.agg #[.int .i64 a0_0, .int .i64 a0_1, .int .i64 a0_2]] w fun e w' => e = .returned (.agg #[.int .i64 r1, .int .i64 r2, .int .i64 r3]) ∧ Below w.heap.size w w' := by
 have hu23 := Try.underlying23
 have hu30 := Try.underlying30
 have HB := zC.mk (Below.refl w.heap.size w)
 have H : (some (a0_0, a0_1, a0_2)) = some (r1, r2, r3) := h
 clear h
 simp only [Option.some.injEq, Prod.mk.injEq] at H
 obtain ⟨rfl, rfl, rfl⟩ := H
 go_enter Try.func26, Try.ntmps26
 go_wp2_with (first | ((with_reducible refine zP (N := 1) rfl ?_); refine zN ?hg (N := 1) ?hd (cs := #[.int .i64 a0_0, .int .i64 a0_1, .int .i64 a0_2]) (t := 23) ?hr ?_; (case hd => rfl); (case hg => rfl); (case hr => first | (go_simp; done) | (go_simp; rfl)); intro gb253 hg w2 hbox hb; have n0_ := zC.mk (zL (by repeat (first | (with_reducible first | exact HB.out | apply zG | apply zA | apply zD) | exact HB.out)) hb); have n1_ := zC.mk (hbox); have n2_ := zC.mk ((by rw [hg]; exact (zM (by repeat (first | (with_reducible first | exact HB.out | apply zG | apply zA | apply zD) | exact HB.out))) : w.heap.size ≤ gb253)); have n3_ := n2_; clear HB; have HB := n0_; have BK253 := n1_; have GW253 := n2_; have GE253 := n3_; clear n0_ n1_ n2_ n3_; clear hb hbox hg) | ((with_reducible refine zP (N := 2) rfl ?_); refine zN ?hg (N := 2) ?hd (cs := #[.int .i64 0, .int .i64 0, .int .i64 0]) (t := 30) ?hr ?_; (case hd => rfl); (case hg => rfl); (case hr => first | (go_simp; done) | (go_simp; rfl)); intro gb254 hg w3 hbox hb; have n0_ := zC.mk (zK (g := gb253) (o := .cells #[.int .i64 a0_0, .int .i64 a0_1, .int .i64 a0_2] 23 (0, 0)) (by (with_reducible repeat (first | refine zF ?_ _ | refine zI ?_ | refine zE ?_ _)); exact BK253.out) hb); have n1_ := zC.mk (zL (by repeat (first | (with_reducible first | exact HB.out | apply zG | apply zA | apply zD | refine zH ?_ GE253.out) | exact HB.out)) hb); have n2_ := zC.mk (hbox); have n3_ := zC.mk ((by rw [hg]; exact (zM (by repeat (first | (with_reducible first | exact HB.out | apply zG | apply zA | apply zD | refine zH ?_ GE253.out) | exact HB.out))) : w.heap.size ≤ gb254)); have n4_ := n3_; have n5_ := zC.mk ((by rw [hg]; exact Nat.ne_of_lt (zV (by (with_reducible repeat (first | refine zF ?_ _ | refine zI ?_ | refine zE ?_ _)); exact BK253.out)) : gb253 ≠ gb254)); have n6_ := zC.mk n5_.out.symm; clear BK253; clear HB; have BK253 := n0_; have HB := n1_; have BK254 := n2_; have GW254 := n3_; have GE254 := n4_; have NB253_254 := n5_; have NB254_253 := n6_; clear n0_ n1_ n2_ n3_ n4_ n5_ n6_; clear hb hbox hg) | ((with_reducible refine zP (N := 3) rfl ?_); refine zN ?hg (N := 3) ?hd (cs := #[.int .i64 0, .int .i64 0, .int .i64 0]) (t := 30) ?hr ?_; (case hd => rfl); (case hg => rfl); (case hr => first | (go_simp; done) | (go_simp; rfl)); intro gb255 hg w4 hbox hb; have n0_ := zC.mk (zK (g := gb253) (o := .cells #[.int .i64 a0_0, .int .i64 a0_1, .int .i64 a0_2] 23 (0, 0)) (by (with_reducible repeat (first | refine zF ?_ _ | refine zI ?_ | refine zE ?_ _)); exact BK253.out) hb); have n1_ := zC.mk (zK (g := gb254) (o := .cells #[.int .i64 0, .int .i64 0, .int .i64 0] 30 (0, 0)) (by (with_reducible repeat (first | refine zF ?_ _ | refine zI ?_ | refine zE ?_ _)); exact BK254.out) hb); have n2_ := zC.mk (zL (by repeat (first | (with_reducible first | exact HB.out | apply zG | apply zA | apply zD | refine zH ?_ GE253.out | refine zH ?_ GE254.out) | exact HB.out)) hb); have n3_ := zC.mk (hbox); have n4_ := zC.mk ((by rw [hg]; exact (zM (by repeat (first | (with_reducible first | exact HB.out | apply zG | apply zA | apply zD | refine zH ?_ GE253.out | refine zH ?_ GE254.out) | exact HB.out))) : w.heap.size ≤ gb255)); have n5_ := n4_; have n6_ := zC.mk ((by rw [hg]; exact Nat.ne_of_lt (zV (by (with_reducible repeat (first | refine zF ?_ _ | refine zI ?_ | refine zE ?_ _)); exact BK253.out)) : gb253 ≠ gb255)); have n7_ := zC.mk n6_.out.symm; have n8_ := zC.mk ((by rw [hg]; exact Nat.ne_of_lt (zV (by (with_reducible repeat (first | refine zF ?_ _ | refine zI ?_ | refine zE ?_ _)); exact BK254.out)) : gb254 ≠ gb255)); have n9_ := zC.mk n8_.out.symm; clear BK253; clear BK254; clear HB; have BK253 := n0_; have BK254 := n1_; have HB := n2_; have BK255 := n3_; have GW255 := n4_; have GE255 := n5_; have NB253_255 := n6_; have NB255_253 := n7_; have NB254_255 := n8_; have NB255_254 := n9_; clear n0_ n1_ n2_ n3_ n4_ n5_ n6_ n7_ n8_ n9_; clear hb hbox hg; have hnb5 := NB253_254.out; have hnc5 := NB254_253.out; have hnb6 := NB253_255.out; have hnc6 := NB255_253.out; have hcz7_0 : w4.cell? ⟨gb253, 0, none⟩ = some (.int .i64 a0_0) := zB BK253.out 0; have hcz7_1 : w4.cell? ⟨gb253, 1, none⟩ = some (.int .i64 a0_1) := zB BK253.out 1; have hcz7_2 : w4.cell? ⟨gb253, 2, none⟩ = some (.int .i64 a0_2) := zB BK253.out 2; have hfz7_0 := zJ BK253.out 0; have hfz7_1 := zJ BK253.out 1; have hfz7_2 := zJ BK253.out 2; have hnb8 := NB255_254.out; have hnc8 := NB254_255.out; have hcz9_0 : w4.cell? ⟨gb255, 0, none⟩ = some (.int .i64 0) := zB BK255.out 0; have hcz9_1 : w4.cell? ⟨gb255, 1, none⟩ = some (.int .i64 0) := zB BK255.out 1; have hcz9_2 : w4.cell? ⟨gb255, 2, none⟩ = some (.int .i64 0) := zB BK255.out 2; have hfz9_0 := zJ BK255.out 0; have hfz9_1 := zJ BK255.out 1; have hfz9_2 := zJ BK255.out 2; have hcz10_0 : w4.cell? ⟨gb254, 0, none⟩ = some (.int .i64 0) := zB BK254.out 0; have hcz10_1 : w4.cell? ⟨gb254, 1, none⟩ = some (.int .i64 0) := zB BK254.out 1; have hcz10_2 : w4.cell? ⟨gb254, 2, none⟩ = some (.int .i64 0) := zB BK254.out 2; have hfz10_0 := zJ BK254.out 0; have hfz10_1 := zJ BK254.out 1; have hfz10_2 := zJ BK254.out 2))
 refine bodyPost_ret (results_cell_row rfl _ _ gb254 30 #[.int .i64 a0_0, .int .i64 a0_1, .int .i64 a0_2] (0, 0) _ rfl (by (with_reducible repeat (first | refine zF ?_ _ | refine zI ?_ | refine zE ?_ _)); refine zS (cs := #[.int .i64 a0_0, .int .i64 a0_1, .int .i64 0]) ?_ 2 _ rfl; (with_reducible repeat (first | refine zF ?_ _ | refine zI ?_ | refine zE ?_ _)); refine zS (cs := #[.int .i64 a0_0, .int .i64 0, .int .i64 0]) ?_ 1 _ rfl; (with_reducible repeat (first | refine zF ?_ _ | refine zI ?_ | refine zE ?_ _)); refine zS (cs := #[.int .i64 0, .int .i64 0, .int .i64 0]) ?_ 0 _ rfl; (with_reducible repeat (first | refine zF ?_ _ | refine zI ?_ | refine zE ?_ _)); refine zU ?_ NB254_255.out _; (with_reducible repeat (first | refine zF ?_ _ | refine zI ?_ | refine zE ?_ _)); refine zU ?_ NB254_255.out _; (with_reducible repeat (first | refine zF ?_ _ | refine zI ?_ | refine zE ?_ _)); refine zU ?_ NB254_255.out _; (with_reducible repeat (first | refine zF ?_ _ | refine zI ?_ | refine zE ?_ _)); exact BK254.out) Try.underlying30 rfl (by kernel_rfl)) rfl ?_
 exact ⟨by first | rfl | (simp [*, errW_none, errW_some] <;> rfl), by repeat (first | (with_reducible first | exact HB.out | apply zG | apply zA | apply zD | refine zH ?_ GE253.out | refine zH ?_ GE254.out | refine zH ?_ GE255.out) | exact HB.out)⟩


/-! ### yX: function 50 -/
theorem yX.calls (k : Nat) (A0 : Option Addr) (c0 : Nat) (l0 : List Int) (r : List Int) (w : World) (hr0 : Kd.C (Kd.int .i64) w A0 l0.length l0) (hc0 : l0.length ≤ c0) (h : yX.f k l0 = some r) :
  Calls Try.prog 50 #[.slice A0 l0.length c0] w fun e w' => ∃ v0_ : Value, e = .returned (v0_) ∧ Kd.R (Kd.int .i64) 2 w' w.heap.size (fun _ => True) v0_ r ∧ Below w.heap.size w w' := by
 have HR0 := zC.mk hr0
 have HC0 := zC.mk hc0
 clear hr0 hc0
 have HB := zC.mk (Below.refl w.heap.size w)
 have H : (if 0 ≤ (l0.length : Int) then (if ((l0.length : Int) : Int).toNat ≤ 35184372088832 then (yX.l0 k l0 (List.replicate ((l0.length : Int) : Int).toNat 0) 0) else (none)) else (none)) = some r := h
 clear h
 by_cases c2 : 0 ≤ (l0.length : Int)
 ·
  rw [if_pos c2] at H
  have c2b0 := eq_true c2
  have c2b1 : decide (0 ≤ (l0.length : Int)) = true := decide_eq_true c2
  clear c2
  by_cases c3 : ((l0.length : Int) : Int).toNat ≤ 35184372088832
  ·
   rw [if_pos c3] at H
   have c3b0 := eq_true c3
   have c3b1 : decide (((l0.length : Int) : Int).toNat ≤ 35184372088832) = true := decide_eq_true c3
   clear c3
   obtain ⟨y256, hy256⟩ : ∃ y_ : List Int, y_ = (List.replicate ((l0.length : Int) : Int).toNat 0) := ⟨_, rfl⟩
   replace H : (yX.l0 k l0 y256 0) = some r := by first | (rw [hy256]; with_reducible exact H) | (have H2_ := (Option.bind_some _ _).symm.trans H; rw [hy256]; with_reducible exact H2_) | (have H2_ := (Option.bind_some _ _).symm.trans H; with_reducible exact H2_) | with_reducible exact H | (rw [hy256]; exact H) | exact H
   have Ny256 := zC.mk hy256
   clear hy256
   have H' := zC.mk H
   clear H
   go_enter Try.func50, Try.ntmps50
   go_wp2_with (first | ((with_reducible refine zP (N := 7) rfl ?_); refine Kd.R_make (Kd.int .i64) _ 2 rfl (N := 7) rfl 24 _ _ rfl (l0.length : Int) rfl rfl Try.underlying24 (.int .i64 0) 8 info2 rfl (by decide) (by omega) 0 (ok := fun _ => True) (okp := fun _ => True) rfl (fun _ hk => hk) trivial (of_decide_eq_true (by first | (with_reducible assumption) | assumption)) (Nat.le_trans (Nat.mul_le_mul_right _ (of_decide_eq_true (by first | (with_reducible assumption) | assumption) : (l0.length : Int).toNat ≤ 35184372088832)) (by omega)) (Below.refl _ _) (Nat.le_refl _) ?_; intro v257 w4 ho5 hb hg_ hnew_; clear hg_ hnew_; (first | rw [← Ny256.out] at ho5 | (simp only [Int.reduceToNat] at ho5; rw [← Ny256.out] at ho5)); have n0_ := zC.mk (Kd.R_lower ho5 (zM (by repeat (first | (with_reducible first | exact HB.out | apply zG | apply zA | apply zD) | exact HB.out)))); have n1_ := zC.mk (zL (by repeat (first | (with_reducible first | exact HB.out | apply zG | apply zA | apply zD) | exact HB.out)) hb); clear HB; have HO258 := n0_; have HB := n1_; clear n0_ n1_; clear hb ho5))
   go_loopg [4] k (fun kq v4 w' => ∃ (x3_1 : List Int) (x4_1 : Int), v4 = .int .i64 x4_1 ∧ zC (yX.l0 kq l0 x3_1 x4_1 = some r) ∧ zC (kq ≤ k) ∧ zC (Kd.R (Kd.int .i64) 2 w' w.heap.size (fun _ => True) v257 x3_1) ∧ zC (Below w.heap.size w w'))
   case atStart => exact ⟨(y256), (0), (by first | rfl | (simp; done) | (simp [*]; done)), H', ⟨Nat.le_refl _⟩, ⟨by (with_reducible repeat (first | apply Kd.R_alloc | apply Kd.R_drewN | apply Kd.R_drew)); exact HO258.out⟩, ⟨by repeat (first | (with_reducible first | exact HB.out | apply zG | apply zA | apply zD) | exact HB.out)⟩⟩
   case round =>
    clear H'
    try clear c2
    try clear c2b0
    try clear c2b1
    try clear p2
    try clear c3
    try clear c3b0
    try clear c3b1
    try clear c5
    obtain ⟨x3_1, x4_1, rfl, HA, HK1, HO_3, HB⟩ := hrel
    cases gk with
    | zero => exact absurd HA.out (by simp [yX.l0])
    | succ k1 =>
     have H := HA.out
     clear HA
     simp only [yX.l0] at H
     by_cases c6 : x4_1 < (l0.length : Int)
     ·
      rw [if_pos c6] at H
      have c6b0 : decide (x4_1 < (l0.length : Int)) = true := decide_eq_true c6
      clear c6
      by_cases c7 : 0 ≤ x4_1
      ·
       rw [if_pos c7] at H
       have c7b0 : decide (0 ≤ x4_1) = true := decide_eq_true c7
       clear c7
       by_cases c8 : x4_1 < (x3_1.length : Int)
       ·
        rw [if_pos c8] at H
        have c8b0 : decide (x4_1 < (x3_1.length : Int)) = true := decide_eq_true c8
        clear c8
        obtain ⟨y260, hy260⟩ : ∃ y_ : List Int, y_ = (x3_1.set (x4_1 : Int).toNat (rd l0 x4_1)) := ⟨_, rfl⟩
        replace H : (yX.l0 k1 l0 y260 (wrap64 (x4_1 + 1))) = some r := by first | (rw [hy260]; with_reducible exact H) | (have H2_ := (Option.bind_some _ _).symm.trans H; rw [hy260]; with_reducible exact H2_) | (have H2_ := (Option.bind_some _ _).symm.trans H; with_reducible exact H2_) | with_reducible exact H | (rw [hy260]; exact H) | exact H
        have Ny260 := zC.mk hy260
        clear hy260
        have H' := zC.mk H
        clear H
        have p259 : 0 ≤ (x4_1 : Int) := of_decide_eq_true (by first | (with_reducible assumption) | assumption)
        have q259 : x4_1 < (l0.length : Int) := of_decide_eq_true (by first | (with_reducible assumption) | assumption)
        obtain ⟨ad259, e259, hx259_0⟩ := Kd.at_int HR0.out x4_1 p259 q259
        cases e259
        replace hx259_0 := (HB.out.cell (World.block_lt_of_cell? w _ hx259_0)).trans hx259_0
        replace p259 := eq_true p259
        replace q259 := eq_true q259
        have p9 : 0 ≤ (x4_1 : Int) := of_decide_eq_true (by first | (with_reducible assumption) | assumption)
        have q9 : (x4_1 : Int) < ((x3_1.length : Int) : Int) := of_decide_eq_true (by first | (with_reducible assumption) | assumption)
        obtain ⟨go9, co9, eo9, gb9, gl9, cl9, HG9⟩ := Kd.R_form HO_3.out (by omega)
        (first | cases eo9 | (injection eo9 with ea_ en_ ec_; (first | subst ea_ | (injection ea_ with ea_; subst ea_)); subst ec_; clear en_))
        have GB9 := zC.mk gb9
        have GG9 := zC.mk HG9
        clear gb9 gl9 HG9
        obtain ⟨hx9_0, hf9_0⟩ := Kd.R_celln 0 HO_3.out (x4_1 : Int) p9 q9
        replace p9 := eq_true p9
        replace q9 := eq_true q9
        have HP10 := Kd.R_putg HO_3.out (x4_1 : Int) (rd l0 x4_1)
        go_wp2_with (first | ((with_reducible refine gate_store (t := 2) (p := 20) rfl ?_); refine store_event (t := 2) (p := 20) (v := ?vo_w11) (w1 := (wr.setCell ⟨go9, (x4_1 : Int).toNat, none⟩ (.int .i64 (rd l0 x4_1)))) ?hg ?ho ?hn ?hr ?_; (case ho => rfl); (case hg => rfl); (case hn => rfl); (case hr => first | (go_simp; done) | (go_simp; rfl)); intro w11 hw; have hg : wr.grownBy w11 (some go9) := (by rw [hw]; exact HP10.2); have hp_ : Kd.R (Kd.int .i64) 2 w11 w.heap.size (fun _ => True) (.slice (some ⟨go9, 0, none⟩) x3_1.length co9) y260 := (by rw [hw, Ny260.out]; exact HP10.1); clear HP10; have n0_ := zC.mk (hp_); have n1_ := zC.mk ((by rw [hw]; exact zH (HB.out) GB9.out : Below w.heap.size w w11)); clear HO_3; clear HB; have HO_3 := n0_; have HB := n1_; clear n0_ n1_; clear hg hw hp_))
        go_roundg k1
        case measure => have := HK1.out; omega
        case rel => exact ⟨(y260), (wrap64 (x4_1 + 1)), (by first | rfl | (simp; done) | (simp [*]; done)), H', ⟨by have := HK1.out; omega⟩, ⟨by (with_reducible repeat (first | apply Kd.R_alloc | apply Kd.R_drewN | apply Kd.R_drew)); exact HO_3.out⟩, ⟨by repeat (first | (with_reducible first | exact HB.out | apply zG | apply zA | apply zD) | exact HB.out)⟩⟩
       ·
        rw [if_neg c8] at H
        exact absurd H (by simp)
      ·
       rw [if_neg c7] at H
       exact absurd H (by simp)
     ·
      rw [if_neg c6] at H
      have c6b0 : decide (x4_1 < (l0.length : Int)) = false := decide_eq_false c6
      clear c6
      obtain rfl := Option.some.inj H
      go_wp2
      go_ret
      exact ⟨_, by first | rfl | (simp [*, errW_none, errW_some] <;> rfl), by (with_reducible repeat (first | apply Kd.R_alloc | apply Kd.R_drewN | apply Kd.R_drew)); exact HO_3.out, by repeat (first | (with_reducible first | exact HB.out | apply zG | apply zA | apply zD) | exact HB.out)⟩
  ·
   rw [if_neg c3] at H
   exact absurd H (by simp)
 ·
  rw [if_neg c2] at H
  exact absurd H (by simp)


/-! ### xG: function 14 -/
theorem xG.calls (k : Nat) (a0_0 : Int) (a0_1 : Int) (a0_2 : Int) (a0_3 : Int) (A0_4 : Option Addr) (c0_4 : Nat) (l0_4 : List Int) (r1 : Int) (r2 : Int) (r3 : Int) (r4 : Int) (r5 : List Int) (w : World) (hr0_4 : Kd.C (Kd.int .i64) w A0_4 l0_4.length l0_4) (hc0_4 : l0_4.length ≤ c0_4) (h : xG.f k a0_0 a0_1 a0_2 a0_3 l0_4 = some (r1, r2, r3, r4, r5)) :
  Calls Try.prog 14 #[.agg #[.int .i64 a0_0, .int .i64 a0_1, .int .i64 a0_2, .int .i64 a0_3, .slice A0_4 l0_4.length c0_4]] w fun e w' => ∃ v4_ : Value, e = .returned (.agg #[.int .i64 r1, .int .i64 r2, .int .i64 r3, .int .i64 r4, v4_]) ∧ Kd.R (Kd.int .i64) 2 w' w.heap.size (fun _ => True) v4_ r5 ∧ Below w.heap.size w w' := by
 have hu26 := Try.underlying26
 have hu32 := Try.underlying32
 have hu23 := Try.underlying23
 have hu30 := Try.underlying30
 have HR0_4 := zC.mk hr0_4
 have HC0_4 := zC.mk hc0_4
 clear hr0_4 hc0_4
 have HB := zC.mk (Below.refl w.heap.size w)
 have H : ((wR.f a0_1 a0_2 a0_3).bind fun bt264 => ((yX.f k l0_4).bind fun t267 => (some (a0_0, bt264.1, bt264.2.1, bt264.2.2, t267)))) = some (r1, r2, r3, r4, r5) := h
 clear h
 replace H := Option.bind_eq_some_iff.mp H
 obtain ⟨⟨t264, t265, t266⟩, A20, H⟩ := H
 replace H : ((yX.f k l0_4).bind fun t267 => (some (a0_0, t264, t265, t266, t267))) = some (r1, r2, r3, r4, r5) := H
 have A2 := zC.mk A20
 clear A20
 replace H := Option.bind_eq_some_iff.mp H
 obtain ⟨t267, A30, H⟩ := H
 replace H : (some (a0_0, t264, t265, t266, t267)) = some (r1, r2, r3, r4, r5) := H
 have A3 := zC.mk A30
 clear A30
 simp only [Option.some.injEq, Prod.mk.injEq] at H
 obtain ⟨rfl, rfl, rfl, rfl, rfl⟩ := H
 go_enter Try.func14, Try.ntmps14
 go_wp2_with (first | ((with_reducible refine zP (N := 1) rfl ?_); refine zN ?hg (N := 1) ?hd (cs := #[.int .i64 a0_0, .int .i64 a0_1, .int .i64 a0_2, .int .i64 a0_3, .slice A0_4 l0_4.length c0_4]) (t := 26) ?hr ?_; (case hd => rfl); (case hg => rfl); (case hr => first | (go_simp; done) | (go_simp; rfl)); intro gb261 hg w4 hbox hb; have n0_ := zC.mk (zL (by repeat (first | (with_reducible first | exact HB.out | apply zG | apply zA | apply zD) | exact HB.out)) hb); have n1_ := zC.mk (hbox); have n2_ := zC.mk ((by rw [hg]; exact (zM (by repeat (first | (with_reducible first | exact HB.out | apply zG | apply zA | apply zD) | exact HB.out))) : w.heap.size ≤ gb261)); have n3_ := n2_; clear HB; have HB := n0_; have BK261 := n1_; have GW261 := n2_; have GE261 := n3_; clear n0_ n1_ n2_ n3_; clear hb hbox hg) | ((with_reducible refine zP (N := 2) rfl ?_); refine zN ?hg (N := 2) ?hd (cs := #[.int .i64 0, .int .i64 0, .int .i64 0, .int .i64 0, .slice none 0 0]) (t := 32) ?hr ?_; (case hd => rfl); (case hg => rfl); (case hr => first | (go_simp; done) | (go_simp; rfl)); intro gb262 hg w5 hbox hb; have n0_ := zC.mk (zK (g := gb261) (o := .cells #[.int .i64 a0_0, .int .i64 a0_1, .int .i64 a0_2, .int .i64 a0_3, .slice A0_4 l0_4.length c0_4] 26 (0, 0)) (by (with_reducible repeat (first | refine zF ?_ _ | refine zI ?_ | refine zE ?_ _)); exact BK261.out) hb); have n1_ := zC.mk (zL (by repeat (first | (with_reducible first | exact HB.out | apply zG | apply zA | apply zD | refine zH ?_ GE261.out) | exact HB.out)) hb); have n2_ := zC.mk (hbox); have n3_ := zC.mk ((by rw [hg]; exact (zM (by repeat (first | (with_reducible first | exact HB.out | apply zG | apply zA | apply zD | refine zH ?_ GE261.out) | exact HB.out))) : w.heap.size ≤ gb262)); have n4_ := n3_; have n5_ := zC.mk ((by rw [hg]; exact Nat.ne_of_lt (zV (by (with_reducible repeat (first | refine zF ?_ _ | refine zI ?_ | refine zE ?_ _)); exact BK261.out)) : gb261 ≠ gb262)); have n6_ := zC.mk n5_.out.symm; clear BK261; clear HB; have BK261 := n0_; have HB := n1_; have BK262 := n2_; have GW262 := n3_; have GE262 := n4_; have NB261_262 := n5_; have NB262_261 := n6_; clear n0_ n1_ n2_ n3_ n4_ n5_ n6_; clear hb hbox hg) | ((with_reducible refine zP (N := 3) rfl ?_); refine zN ?hg (N := 3) ?hd (cs := #[.int .i64 0, .int .i64 0, .int .i64 0, .int .i64 0, .slice none 0 0]) (t := 32) ?hr ?_; (case hd => rfl); (case hg => rfl); (case hr => first | (go_simp; done) | (go_simp; rfl)); intro gb263 hg w6 hbox hb; have n0_ := zC.mk (zK (g := gb261) (o := .cells #[.int .i64 a0_0, .int .i64 a0_1, .int .i64 a0_2, .int .i64 a0_3, .slice A0_4 l0_4.length c0_4] 26 (0, 0)) (by (with_reducible repeat (first | refine zF ?_ _ | refine zI ?_ | refine zE ?_ _)); exact BK261.out) hb); have n1_ := zC.mk (zK (g := gb262) (o := .cells #[.int .i64 0, .int .i64 0, .int .i64 0, .int .i64 0, .slice none 0 0] 32 (0, 0)) (by (with_reducible repeat (first | refine zF ?_ _ | refine zI ?_ | refine zE ?_ _)); exact BK262.out) hb); have n2_ := zC.mk (zL (by repeat (first | (with_reducible first | exact HB.out | apply zG | apply zA | apply zD | refine zH ?_ GE261.out | refine zH ?_ GE262.out) | exact HB.out)) hb); have n3_ := zC.mk (hbox); have n4_ := zC.mk ((by rw [hg]; exact (zM (by repeat (first | (with_reducible first | exact HB.out | apply zG | apply zA | apply zD | refine zH ?_ GE261.out | refine zH ?_ GE262.out) | exact HB.out))) : w.heap.size ≤ gb263)); have n5_ := n4_; have n6_ := zC.mk ((by rw [hg]; exact Nat.ne_of_lt (zV (by (with_reducible repeat (first | refine zF ?_ _ | refine zI ?_ | refine zE ?_ _)); exact BK261.out)) : gb261 ≠ gb263)); have n7_ := zC.mk n6_.out.symm; have n8_ := zC.mk ((by rw [hg]; exact Nat.ne_of_lt (zV (by (with_reducible repeat (first | refine zF ?_ _ | refine zI ?_ | refine zE ?_ _)); exact BK262.out)) : gb262 ≠ gb263)); have n9_ := zC.mk n8_.out.symm; clear BK261; clear BK262; clear HB; have BK261 := n0_; have BK262 := n1_; have HB := n2_; have BK263 := n3_; have GW263 := n4_; have GE263 := n5_; have NB261_263 := n6_; have NB263_261 := n7_; have NB262_263 := n8_; have NB263_262 := n9_; clear n0_ n1_ n2_ n3_ n4_ n5_ n6_ n7_ n8_ n9_; clear hb hbox hg; have hnb7 := NB261_262.out; have hnc7 := NB262_261.out; have hnb8 := NB261_263.out; have hnc8 := NB263_261.out; have hcz9_0 : w6.cell? ⟨gb261, 0, none⟩ = some (.int .i64 a0_0) := zB BK261.out 0; have hcz9_1 : w6.cell? ⟨gb261, 1, none⟩ = some (.int .i64 a0_1) := zB BK261.out 1; have hcz9_2 : w6.cell? ⟨gb261, 2, none⟩ = some (.int .i64 a0_2) := zB BK261.out 2; have hcz9_3 : w6.cell? ⟨gb261, 3, none⟩ = some (.int .i64 a0_3) := zB BK261.out 3; have hcz9_4 : w6.cell? ⟨gb261, 4, none⟩ = some (.slice A0_4 l0_4.length c0_4) := zB BK261.out 4; have hfz9_0 := zJ BK261.out 0; have hfz9_1 := zJ BK261.out 1; have hfz9_2 := zJ BK261.out 2; have hfz9_3 := zJ BK261.out 3; have hfz9_4 := zJ BK261.out 4; have hnb10 := NB263_262.out; have hnc10 := NB262_263.out; have hcz11_0 : w6.cell? ⟨gb263, 0, none⟩ = some (.int .i64 0) := zB BK263.out 0; have hcz11_1 : w6.cell? ⟨gb263, 1, none⟩ = some (.int .i64 0) := zB BK263.out 1; have hcz11_2 : w6.cell? ⟨gb263, 2, none⟩ = some (.int .i64 0) := zB BK263.out 2; have hcz11_3 : w6.cell? ⟨gb263, 3, none⟩ = some (.int .i64 0) := zB BK263.out 3; have hcz11_4 : w6.cell? ⟨gb263, 4, none⟩ = some (.slice none 0 0) := zB BK263.out 4; have hfz11_0 := zJ BK263.out 0; have hfz11_1 := zJ BK263.out 1; have hfz11_2 := zJ BK263.out 2; have hfz11_3 := zJ BK263.out 3; have hfz11_4 := zJ BK263.out 4) | ((with_reducible refine zQ (f := 26) rfl ?_); refine zX (some 9) rfl rfl Try.func26 (by kernel_rfl) rfl #[.agg #[.int .i64 a0_1, .int .i64 a0_2, .int .i64 a0_3]] rfl (by (try simp only [List.map_toArray, List.map_cons, List.map_nil]); first | done | rfl) ?_; (with_reducible refine (wR.calls a0_1 a0_2 a0_3 t264 t265 t266 _ A2.out).mono ?_); rintro e w12 ⟨rfl, hb⟩; refine ⟨_, rfl, ?_⟩; have n0_ := zC.mk (zK (g := gb261) (o := .cells #[.int .i64 a0_0, .int .i64 a0_1, .int .i64 a0_2, .int .i64 a0_3, .slice A0_4 l0_4.length c0_4] 26 (0, 0)) (by (with_reducible repeat (first | refine zF ?_ _ | refine zI ?_ | refine zE ?_ _)); refine zU ?_ NB261_263.out _; (with_reducible repeat (first | refine zF ?_ _ | refine zI ?_ | refine zE ?_ _)); exact BK261.out) hb); have n1_ := zC.mk (zK (g := gb262) (o := .cells #[.int .i64 0, .int .i64 0, .int .i64 0, .int .i64 0, .slice none 0 0] 32 (0, 0)) (by (with_reducible repeat (first | refine zF ?_ _ | refine zI ?_ | refine zE ?_ _)); refine zU ?_ NB262_263.out _; (with_reducible repeat (first | refine zF ?_ _ | refine zI ?_ | refine zE ?_ _)); exact BK262.out) hb); have n2_ := zC.mk (zK (g := gb263) (o := .cells #[.int .i64 a0_0, .int .i64 0, .int .i64 0, .int .i64 0, .slice none 0 0] 32 (0, 0)) (by (with_reducible repeat (first | refine zF ?_ _ | refine zI ?_ | refine zE ?_ _)); refine zS (cs := #[.int .i64 0, .int .i64 0, .int .i64 0, .int .i64 0, .slice none 0 0]) ?_ 0 _ rfl; (with_reducible repeat (first | refine zF ?_ _ | refine zI ?_ | refine zE ?_ _)); exact BK263.out) hb); have n3_ := zC.mk (zL (by repeat (first | (with_reducible first | exact HB.out | apply zG | apply zA | apply zD | refine zH ?_ GE261.out | refine zH ?_ GE262.out | refine zH ?_ GE263.out) | exact HB.out)) hb); clear BK261; clear BK262; clear BK263; clear HB; have BK261 := n0_; have BK262 := n1_; have BK263 := n2_; have HB := n3_; clear n0_ n1_ n2_ n3_; (try clear hb); have hcz13_0 : w12.cell? ⟨gb263, 0, none⟩ = some (.int .i64 a0_0) := zB BK263.out 0; have hcz13_1 : w12.cell? ⟨gb263, 1, none⟩ = some (.int .i64 0) := zB BK263.out 1; have hcz13_2 : w12.cell? ⟨gb263, 2, none⟩ = some (.int .i64 0) := zB BK263.out 2; have hcz13_3 : w12.cell? ⟨gb263, 3, none⟩ = some (.int .i64 0) := zB BK263.out 3; have hcz13_4 : w12.cell? ⟨gb263, 4, none⟩ = some (.slice none 0 0) := zB BK263.out 4; have hfz13_0 := zJ BK263.out 0; have hfz13_1 := zJ BK263.out 1; have hfz13_2 := zJ BK263.out 2; have hfz13_3 := zJ BK263.out 3; have hfz13_4 := zJ BK263.out 4; have hcz14_0 : w12.cell? ⟨gb261, 0, none⟩ = some (.int .i64 a0_0) := zB BK261.out 0; have hcz14_1 : w12.cell? ⟨gb261, 1, none⟩ = some (.int .i64 a0_1) := zB BK261.out 1; have hcz14_2 : w12.cell? ⟨gb261, 2, none⟩ = some (.int .i64 a0_2) := zB BK261.out 2; have hcz14_3 : w12.cell? ⟨gb261, 3, none⟩ = some (.int .i64 a0_3) := zB BK261.out 3; have hcz14_4 : w12.cell? ⟨gb261, 4, none⟩ = some (.slice A0_4 l0_4.length c0_4) := zB BK261.out 4; have hfz14_0 := zJ BK261.out 0; have hfz14_1 := zJ BK261.out 1; have hfz14_2 := zJ BK261.out 2; have hfz14_3 := zJ BK261.out 3; have hfz14_4 := zJ BK261.out 4) | ((with_reducible refine zQ (f := 50) rfl ?_); refine zX (some 13) rfl rfl Try.func50 (by kernel_rfl) rfl #[.slice A0_4 l0_4.length c0_4] rfl (by (try simp only [List.map_toArray, List.map_cons, List.map_nil]); first | done | rfl) ?_; (with_reducible refine (yX.calls k _ _ l0_4 t267 _ ?side1 ?side2 A3.out).mono ?_); (case side1 => exact Kd.C_below HR0_4.out (by repeat (first | (with_reducible first | exact HB.out | apply zG | apply zA | apply zD | refine zH ?_ GE261.out | refine zH ?_ GE262.out | refine zH ?_ GE263.out) | exact HB.out))); (case side2 => exact HC0_4.out); rintro e w15 ⟨v268, rfl, ho0, hb⟩; refine ⟨_, rfl, ?_⟩; have n0_ := zC.mk (Kd.R_lower ho0 (zM (by repeat (first | (with_reducible first | exact HB.out | apply zG | apply zA | apply zD | refine zH ?_ GE261.out | refine zH ?_ GE262.out | refine zH ?_ GE263.out) | exact HB.out)))); have n1_ := zC.mk (zK (g := gb261) (o := .cells #[.int .i64 a0_0, .int .i64 a0_1, .int .i64 a0_2, .int .i64 a0_3, .slice A0_4 l0_4.length c0_4] 26 (0, 0)) (by (with_reducible repeat (first | refine zF ?_ _ | refine zI ?_ | refine zE ?_ _)); refine zU ?_ NB261_263.out _; (with_reducible repeat (first | refine zF ?_ _ | refine zI ?_ | refine zE ?_ _)); refine zU ?_ NB261_263.out _; (with_reducible repeat (first | refine zF ?_ _ | refine zI ?_ | refine zE ?_ _)); refine zU ?_ NB261_263.out _; (with_reducible repeat (first | refine zF ?_ _ | refine zI ?_ | refine zE ?_ _)); exact BK261.out) hb); have n2_ := zC.mk (zK (g := gb262) (o := .cells #[.int .i64 0, .int .i64 0, .int .i64 0, .int .i64 0, .slice none 0 0] 32 (0, 0)) (by (with_reducible repeat (first | refine zF ?_ _ | refine zI ?_ | refine zE ?_ _)); refine zU ?_ NB262_263.out _; (with_reducible repeat (first | refine zF ?_ _ | refine zI ?_ | refine zE ?_ _)); refine zU ?_ NB262_263.out _; (with_reducible repeat (first | refine zF ?_ _ | refine zI ?_ | refine zE ?_ _)); refine zU ?_ NB262_263.out _; (with_reducible repeat (first | refine zF ?_ _ | refine zI ?_ | refine zE ?_ _)); exact BK262.out) hb); have n3_ := zC.mk (zK (g := gb263) (o := .cells #[.int .i64 a0_0, .int .i64 t264, .int .i64 t265, .int .i64 t266, .slice none 0 0] 32 (0, 0)) (by (with_reducible repeat (first | refine zF ?_ _ | refine zI ?_ | refine zE ?_ _)); refine zS (cs := #[.int .i64 a0_0, .int .i64 t264, .int .i64 t265, .int .i64 0, .slice none 0 0]) ?_ 3 _ rfl; (with_reducible repeat (first | refine zF ?_ _ | refine zI ?_ | refine zE ?_ _)); refine zS (cs := #[.int .i64 a0_0, .int .i64 t264, .int .i64 0, .int .i64 0, .slice none 0 0]) ?_ 2 _ rfl; (with_reducible repeat (first | refine zF ?_ _ | refine zI ?_ | refine zE ?_ _)); refine zS (cs := #[.int .i64 a0_0, .int .i64 0, .int .i64 0, .int .i64 0, .slice none 0 0]) ?_ 1 _ rfl; (with_reducible repeat (first | refine zF ?_ _ | refine zI ?_ | refine zE ?_ _)); exact BK263.out) hb); have n4_ := zC.mk (zL (by repeat (first | (with_reducible first | exact HB.out | apply zG | apply zA | apply zD | refine zH ?_ GE261.out | refine zH ?_ GE262.out | refine zH ?_ GE263.out) | exact HB.out)) hb); clear BK261; clear BK262; clear BK263; clear HB; have HO269 := n0_; have BK261 := n1_; have BK262 := n2_; have BK263 := n3_; have HB := n4_; clear n0_ n1_ n2_ n3_ n4_; (try clear hb); (try clear ho0); obtain ⟨Ao16, co16, eo16⟩ := Kd.R_slice HO269.out; subst eo16; have hcz17_0 : w15.cell? ⟨gb263, 0, none⟩ = some (.int .i64 a0_0) := zB BK263.out 0; have hcz17_1 : w15.cell? ⟨gb263, 1, none⟩ = some (.int .i64 t264) := zB BK263.out 1; have hcz17_2 : w15.cell? ⟨gb263, 2, none⟩ = some (.int .i64 t265) := zB BK263.out 2; have hcz17_3 : w15.cell? ⟨gb263, 3, none⟩ = some (.int .i64 t266) := zB BK263.out 3; have hcz17_4 : w15.cell? ⟨gb263, 4, none⟩ = some (.slice none 0 0) := zB BK263.out 4; have hfz17_0 := zJ BK263.out 0; have hfz17_1 := zJ BK263.out 1; have hfz17_2 := zJ BK263.out 2; have hfz17_3 := zJ BK263.out 3; have hfz17_4 := zJ BK263.out 4; have hcz18_0 : w15.cell? ⟨gb262, 0, none⟩ = some (.int .i64 0) := zB BK262.out 0; have hcz18_1 : w15.cell? ⟨gb262, 1, none⟩ = some (.int .i64 0) := zB BK262.out 1; have hcz18_2 : w15.cell? ⟨gb262, 2, none⟩ = some (.int .i64 0) := zB BK262.out 2; have hcz18_3 : w15.cell? ⟨gb262, 3, none⟩ = some (.int .i64 0) := zB BK262.out 3; have hcz18_4 : w15.cell? ⟨gb262, 4, none⟩ = some (.slice none 0 0) := zB BK262.out 4; have hfz18_0 := zJ BK262.out 0; have hfz18_1 := zJ BK262.out 1; have hfz18_2 := zJ BK262.out 2; have hfz18_3 := zJ BK262.out 3; have hfz18_4 := zJ BK262.out 4))
 refine bodyPost_ret (results_cell_row rfl _ _ gb262 32 #[.int .i64 a0_0, .int .i64 t264, .int .i64 t265, .int .i64 t266, .slice Ao16 t267.length co16] (0, 0) _ rfl (by (with_reducible repeat (first | refine zF ?_ _ | refine zI ?_ | refine zE ?_ _)); refine zS (cs := #[.int .i64 a0_0, .int .i64 t264, .int .i64 t265, .int .i64 t266, .slice none 0 0]) ?_ 4 _ rfl; (with_reducible repeat (first | refine zF ?_ _ | refine zI ?_ | refine zE ?_ _)); refine zS (cs := #[.int .i64 a0_0, .int .i64 t264, .int .i64 t265, .int .i64 0, .slice none 0 0]) ?_ 3 _ rfl; (with_reducible repeat (first | refine zF ?_ _ | refine zI ?_ | refine zE ?_ _)); refine zS (cs := #[.int .i64 a0_0, .int .i64 t264, .int .i64 0, .int .i64 0, .slice none 0 0]) ?_ 2 _ rfl; (with_reducible repeat (first | refine zF ?_ _ | refine zI ?_ | refine zE ?_ _)); refine zS (cs := #[.int .i64 a0_0, .int .i64 0, .int .i64 0, .int .i64 0, .slice none 0 0]) ?_ 1 _ rfl; (with_reducible repeat (first | refine zF ?_ _ | refine zI ?_ | refine zE ?_ _)); refine zS (cs := #[.int .i64 0, .int .i64 0, .int .i64 0, .int .i64 0, .slice none 0 0]) ?_ 0 _ rfl; (with_reducible repeat (first | refine zF ?_ _ | refine zI ?_ | refine zE ?_ _)); refine zU ?_ NB262_263.out _; (with_reducible repeat (first | refine zF ?_ _ | refine zI ?_ | refine zE ?_ _)); exact BK262.out) Try.underlying32 rfl (by kernel_rfl)) rfl ?_
 exact ⟨_, by first | rfl | (simp [*, errW_none, errW_some] <;> rfl), by (with_reducible repeat (first | apply Kd.R_alloc | apply Kd.R_drewN | apply Kd.R_drew)); exact Kd.R_mono (Kd.R_far (p := ⟨gb262, 4, none⟩) (Kd.R_far (p := ⟨gb262, 3, none⟩) (Kd.R_far (p := ⟨gb262, 2, none⟩) (Kd.R_far (p := ⟨gb262, 1, none⟩) (Kd.R_far (p := ⟨gb262, 0, none⟩) (Kd.R_far (p := ⟨gb263, 4, none⟩) (Kd.R_types (Kd.R_types HO269.out BK263.out (by decide)) BK262.out (by decide)) (fun _ hk => hk.1.2) (.slice Ao16 t267.length co16)) (fun _ hk => hk.2) (.int .i64 a0_0)) (fun _ hk => hk.2) (.int .i64 t264)) (fun _ hk => hk.2) (.int .i64 t265)) (fun _ hk => hk.2) (.int .i64 t266)) (fun _ hk => hk.2) (.slice Ao16 t267.length co16)) (fun _ hk => trivial), by repeat (first | (with_reducible first | exact HB.out | apply zG | apply zA | apply zD | refine zH ?_ GE261.out | refine zH ?_ GE262.out | refine zH ?_ GE263.out) | exact HB.out)⟩


/-! ### xQ: function 97 -/
theorem xQ.calls (a0 : Int) (a1 : Int) (a2 : Int) (r : Bool) (w : World) (h : xQ.f a0 a1 a2 = some r) :
  Calls Try.prog 97 #[.int .i64 a0, .int .i64 a1, .int .i64 a2] w fun e w' => e = .returned (.bool r) ∧ Drawn0 w w' := by
 have H : (if a0 ≥ a1 then (some (decide (a0 ≤ a2))) else (some false)) = some r := h
 clear h
 by_cases c4 : a0 ≥ a1
 ·
  rw [if_pos c4] at H
  have c4b0 : decide (a1 ≤ a0) = true := decide_eq_true c4
  clear c4
  obtain rfl := Option.some.inj H
  go_enter Try.func97, Try.ntmps97
  go_wp2
  go_ret
  exact ⟨by first | rfl | (simp; done) | (simp [*]; done), by repeat (first | exact Drawn0.refl _ | apply Drawn0.step)⟩
 ·
  rw [if_neg c4] at H
  have c4b0 : decide (a1 ≤ a0) = false := decide_eq_false c4
  clear c4
  obtain rfl := Option.some.inj H
  go_enter Try.func97, Try.ntmps97
  go_wp2
  go_ret
  exact ⟨by first | rfl | (simp; done) | (simp [*]; done), by repeat (first | exact Drawn0.refl _ | apply Drawn0.step)⟩


/-! ### wA: function 58 -/
theorem wA.calls (a0 : Int) (r : Bool) (w : World) (h : wA.f a0 = some r) :
  Calls Try.prog 58 #[.int .i64 a0] w fun e w' => e = .returned (.bool r) ∧ Drawn0 w w' := by
 have H : ((xQ.f a0 1 1000).bind fun t270 => (some t270)) = some r := h
 clear h
 replace H := Option.bind_eq_some_iff.mp H
 obtain ⟨t270, A20, H⟩ := H
 replace H : (some t270) = some r := H
 have A2 := zC.mk A20
 clear A20
 obtain rfl := Option.some.inj H
 go_enter Try.func58, Try.ntmps58
 go_wp2_with (first | ((with_reducible refine zQ (f := 97) rfl ?_); refine zX (some 4) rfl rfl Try.func97 (by kernel_rfl) rfl #[.int .i64 a0, .int .i64 1, .int .i64 1000] rfl (by (try simp only [List.map_toArray, List.map_cons, List.map_nil]); first | done | rfl) ?_; (with_reducible refine (xQ.calls a0 1 1000 t270 _ A2.out).mono ?_); rintro e w' ⟨rfl, ⟨nd, rfl⟩⟩; refine ⟨_, rfl, ?_⟩))
 go_ret
 exact ⟨by first | rfl | (simp; done) | (simp [*]; done), by repeat (first | exact Drawn0.refl _ | apply Drawn0.step)⟩


/-! ### wN: function 105 -/
theorem wN.calls (a0 : Int) (r : Bool) (w : World) (h : wN.f a0 = some r) :
  Calls Try.prog 105 #[.int .i64 a0] w fun e w' => e = .returned (.bool r) ∧ Drawn0 w w' := by
 have H : ((xQ.f a0 0 1).bind fun t271 => (some t271)) = some r := h
 clear h
 replace H := Option.bind_eq_some_iff.mp H
 obtain ⟨t271, A20, H⟩ := H
 replace H : (some t271) = some r := H
 have A2 := zC.mk A20
 clear A20
 obtain rfl := Option.some.inj H
 go_enter Try.func105, Try.ntmps105
 go_wp2_with (first | ((with_reducible refine zQ (f := 97) rfl ?_); refine zX (some 4) rfl rfl Try.func97 (by kernel_rfl) rfl #[.int .i64 a0, .int .i64 0, .int .i64 1] rfl (by (try simp only [List.map_toArray, List.map_cons, List.map_nil]); first | done | rfl) ?_; (with_reducible refine (xQ.calls a0 0 1 t271 _ A2.out).mono ?_); rintro e w' ⟨rfl, ⟨nd, rfl⟩⟩; refine ⟨_, rfl, ?_⟩))
 go_ret
 exact ⟨by first | rfl | (simp; done) | (simp [*]; done), by repeat (first | exact Drawn0.refl _ | apply Drawn0.step)⟩


/-! ### xN: function 141 -/
theorem xN.calls (a0_0 : Int) (a0_1 : Int) (a0_2 : Int) (r : Int) (w : World) (h : xN.f a0_0 a0_1 a0_2 = some r) :
  Calls Try.prog 141 #[.agg #[.int .i64 a0_0, .int .i64 a0_1, .int .i64 a0_2]] w fun e w' => e = .returned (.int .i64 r) ∧ Below w.heap.size w w' := by
 have hu30 := Try.underlying30
 have HB := zC.mk (Below.refl w.heap.size w)
 have H : (some (wrap64 (a0_0 * a0_2))) = some r := h
 clear h
 obtain rfl := Option.some.inj H
 go_enter Try.func141, Try.ntmps141
 go_wp2_with (first | ((with_reducible refine zP (N := 1) rfl ?_); refine zN ?hg (N := 1) ?hd (cs := #[.int .i64 a0_0, .int .i64 a0_1, .int .i64 a0_2]) (t := 30) ?hr ?_; (case hd => rfl); (case hg => rfl); (case hr => first | (go_simp; done) | (go_simp; rfl)); intro gb272 hg w2 hbox hb; have n0_ := zC.mk (zL (by repeat (first | (with_reducible first | exact HB.out | apply zG | apply zA | apply zD) | exact HB.out)) hb); have n1_ := zC.mk (hbox); have n2_ := zC.mk ((by rw [hg]; exact (zM (by repeat (first | (with_reducible first | exact HB.out | apply zG | apply zA | apply zD) | exact HB.out))) : w.heap.size ≤ gb272)); have n3_ := n2_; clear HB; have HB := n0_; have BK272 := n1_; have GW272 := n2_; have GE272 := n3_; clear n0_ n1_ n2_ n3_; clear hb hbox hg; have hcz3_0 : w2.cell? ⟨gb272, 0, none⟩ = some (.int .i64 a0_0) := zB BK272.out 0; have hcz3_1 : w2.cell? ⟨gb272, 1, none⟩ = some (.int .i64 a0_1) := zB BK272.out 1; have hcz3_2 : w2.cell? ⟨gb272, 2, none⟩ = some (.int .i64 a0_2) := zB BK272.out 2; have hfz3_0 := zJ BK272.out 0; have hfz3_1 := zJ BK272.out 1; have hfz3_2 := zJ BK272.out 2))
 go_ret
 exact ⟨by first | rfl | (simp [*, errW_none, errW_some] <;> rfl), by repeat (first | (with_reducible first | exact HB.out | apply zG | apply zA | apply zD | refine zH ?_ GE272.out) | exact HB.out)⟩

end Go.Proofs.Ytioendlbpendpaa.X
