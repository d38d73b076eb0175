/- Part of the proof of the law FnExactPanelStarts: each function of the code computes what its plain function says. No condition of its own. -/
import Derived.Test.YtioendlbpendpaaCFnExactPanelStartsD0
set_option maxHeartbeats 8000000
set_option maxRecDepth 100000
namespace Go.Proofs.Ytioendlbpendpaa.X
open Go.RowKit Go.Proofs.YtioendlbpendpaaW.PrintWords Go.Proofs.YtioendlbpendpaaW.PrintLast Go.Proofs.YtioendlbpendpaaW.PrintMore
attribute [local go_sem] max2_int min2_int max_two min_two max_three min_three max_four min_four   -- for this text's walks alone
set_option linter.unusedVariables false
set_option linter.unusedSimpArgs false
theorem wR.calls (A0 : Option Addr) (c0 : Nat) (l0 : List Int) (a1 : Int) (r : Int) (w : World) (hr0 : Kd.C (Kd.int .i64) w A0 l0.length l0) (hc0 : l0.length ≤ c0) (h : wR.f l0 a1 = some r) :
  Calls Try.prog 49 #[.slice A0 l0.length c0, .int .i64 a1] w fun e w' => e = .returned (.int .i64 r) ∧ Drawn0 w w' := by
 have HR0 := zC.mk hr0
 have HC0 := zC.mk hc0
 clear hr0 hc0
 have H : (if (wrap64 (a1 - (l0.length : Int))) < 0 then (some (-1)) else (some (wrap64 (a1 - (l0.length : Int))))) = some r := h
 clear h
 by_cases c3 : (wrap64 (a1 - (l0.length : Int))) < 0
 ·
  rw [if_pos c3] at H
  have c3b0 : decide ((wrap64 (a1 - (l0.length : Int))) < 0) = true := decide_eq_true c3
  clear c3
  obtain rfl := Option.some.inj H
  go_enter Try.func49, Try.ntmps49
  go_wp2
  go_ret
  exact ⟨by first | rfl | (simp; done) | (simp [*]; done), by repeat (first | exact Drawn0.refl _ | apply Drawn0.step)⟩
 ·
  rw [if_neg c3] at H
  have c3b0 : decide ((wrap64 (a1 - (l0.length : Int))) < 0) = false := decide_eq_false c3
  clear c3
  obtain rfl := Option.some.inj H
  go_enter Try.func49, Try.ntmps49
  go_wp2
  go_ret
  exact ⟨by first | rfl | (simp; done) | (simp [*]; done), by repeat (first | exact Drawn0.refl _ | apply Drawn0.step)⟩
theorem wM.calls (a0_0 : Int) (a0_1 : Int) (a0_2 : Int) (a0_3 : Int) (A0_4 : Option Addr) (c0_4 : Nat) (l0_4 : List Int) (a1 : Int) (r : Int) (w : World) (hr0_4 : Kd.C (Kd.int .i64) w A0_4 l0_4.length l0_4) (hc0_4 : l0_4.length ≤ c0_4) (h : wM.f a0_0 a0_1 a0_2 a0_3 l0_4 a1 = some r) :
  Calls Try.prog 12 #[.agg #[.int .i64 a0_0, .int .i64 a0_1, .int .i64 a0_2, .int .i64 a0_3, .slice A0_4 l0_4.length c0_4], .int .i64 a1] w fun e w' => e = .returned (.int .i64 r) ∧ Below w.heap.size w w' := by
 have hu26 := Try.underlying26
 have HR0_4 := zC.mk hr0_4
 have HC0_4 := zC.mk hc0_4
 clear hr0_4 hc0_4
 have HB := zC.mk (Below.refl w.heap.size w)
 have H : ((wR.f l0_4 a1).bind fun t102 => (if t102 < 0 then (some (-1)) else (some t102))) = some r := h
 clear h
 replace H := Option.bind_eq_some_iff.mp H
 obtain ⟨t102, A30, H⟩ := H
 replace H : (if t102 < 0 then (some (-1)) else (some t102)) = some r := H
 have A3 := zC.mk A30
 clear A30
 by_cases c4 : t102 < 0
 ·
  rw [if_pos c4] at H
  have c4b0 : decide (t102 < 0) = true := decide_eq_true c4
  clear c4
  obtain rfl := Option.some.inj H
  go_enter Try.func12, Try.ntmps12
  go_wp2_with (first | ((with_reducible refine zQ (N := 2) rfl ?_); refine zO ?hg (N := 2) ?hd (cs := #[.int .i64 a0_0, .int .i64 a0_1, .int .i64 a0_2, .int .i64 a0_3, .slice A0_4 l0_4.length c0_4]) (t := 26) ?hr ?_; (case hd => rfl); (case hg => rfl); (case hr => first | (go_simp; done) | (go_simp; rfl)); intro gb101 hg w5 hbox hb; have n0_ := zC.mk (zL (by repeat (first | (with_reducible first | exact HB.out | apply zG | apply zA | apply zF) | exact HB.out)) hb); have n1_ := zC.mk (hbox); have n2_ := zC.mk ((by rw [hg]; exact (zM (by repeat (first | (with_reducible first | exact HB.out | apply zG | apply zA | apply zF) | exact HB.out))) : w.heap.size ≤ gb101)); have n3_ := n2_; clear HB; have HB := n0_; have BK101 := n1_; have GW101 := n2_; have GE101 := n3_; clear n0_ n1_ n2_ n3_; clear hb hbox hg; have hcz6_0 : w5.cell? ⟨gb101, 0, none⟩ = some (.int .i64 a0_0) := zB BK101.out 0; have hcz6_1 : w5.cell? ⟨gb101, 1, none⟩ = some (.int .i64 a0_1) := zB BK101.out 1; have hcz6_2 : w5.cell? ⟨gb101, 2, none⟩ = some (.int .i64 a0_2) := zB BK101.out 2; have hcz6_3 : w5.cell? ⟨gb101, 3, none⟩ = some (.int .i64 a0_3) := zB BK101.out 3; have hcz6_4 : w5.cell? ⟨gb101, 4, none⟩ = some (.slice A0_4 l0_4.length c0_4) := zB BK101.out 4; have hfz6_0 := zJ BK101.out 0; have hfz6_1 := zJ BK101.out 1; have hfz6_2 := zJ BK101.out 2; have hfz6_3 := zJ BK101.out 3; have hfz6_4 := zJ BK101.out 4) | ((with_reducible refine zP (f := 49) rfl ?_); refine zX (some 8) rfl rfl Try.func49 (by kernel_rfl) rfl #[.slice A0_4 l0_4.length c0_4, .int .i64 a1] rfl (by (try simp only [List.map_toArray, List.map_cons, List.map_nil]); first | done | rfl) ?_; (with_reducible refine (wR.calls _ _ l0_4 a1 t102 _ ?side1 ?side2 A3.out).mono ?_); (case side1 => repeat (first | exact (Kd.C_below HR0_4.out HB.out) | (with_reducible refine Kd.C_alloc ?_ _) | (with_reducible refine Kd.C_drewN ?_ _) | (with_reducible refine Kd.C_drew ?_))); (case side2 => exact HC0_4.out); rintro e w' ⟨rfl, ⟨nd, rfl⟩⟩; refine ⟨_, rfl, ?_⟩))
  go_ret
  exact ⟨by first | rfl | (simp [*, errW_none, errW_some] <;> rfl), by repeat (first | (with_reducible first | exact HB.out | apply zG | apply zA | apply zF | refine zH ?_ GE101.out) | exact HB.out)⟩
 ·
  rw [if_neg c4] at H
  have c4b0 : decide (t102 < 0) = false := decide_eq_false c4
  clear c4
  obtain rfl := Option.some.inj H
  go_enter Try.func12, Try.ntmps12
  go_wp2_with (first | ((with_reducible refine zQ (N := 2) rfl ?_); refine zO ?hg (N := 2) ?hd (cs := #[.int .i64 a0_0, .int .i64 a0_1, .int .i64 a0_2, .int .i64 a0_3, .slice A0_4 l0_4.length c0_4]) (t := 26) ?hr ?_; (case hd => rfl); (case hg => rfl); (case hr => first | (go_simp; done) | (go_simp; rfl)); intro gb101 hg w7 hbox hb; have n0_ := zC.mk (zL (by repeat (first | (with_reducible first | exact HB.out | apply zG | apply zA | apply zF) | exact HB.out)) hb); have n1_ := zC.mk (hbox); have n2_ := zC.mk ((by rw [hg]; exact (zM (by repeat (first | (with_reducible first | exact HB.out | apply zG | apply zA | apply zF) | exact HB.out))) : w.heap.size ≤ gb101)); have n3_ := n2_; clear HB; have HB := n0_; have BK101 := n1_; have GW101 := n2_; have GE101 := n3_; clear n0_ n1_ n2_ n3_; clear hb hbox hg; have hcz8_0 : w7.cell? ⟨gb101, 0, none⟩ = some (.int .i64 a0_0) := zB BK101.out 0; have hcz8_1 : w7.cell? ⟨gb101, 1, none⟩ = some (.int .i64 a0_1) := zB BK101.out 1; have hcz8_2 : w7.cell? ⟨gb101, 2, none⟩ = some (.int .i64 a0_2) := zB BK101.out 2; have hcz8_3 : w7.cell? ⟨gb101, 3, none⟩ = some (.int .i64 a0_3) := zB BK101.out 3; have hcz8_4 : w7.cell? ⟨gb101, 4, none⟩ = some (.slice A0_4 l0_4.length c0_4) := zB BK101.out 4; have hfz8_0 := zJ BK101.out 0; have hfz8_1 := zJ BK101.out 1; have hfz8_2 := zJ BK101.out 2; have hfz8_3 := zJ BK101.out 3; have hfz8_4 := zJ BK101.out 4) | ((with_reducible refine zP (f := 49) rfl ?_); refine zX (some 8) rfl rfl Try.func49 (by kernel_rfl) rfl #[.slice A0_4 l0_4.length c0_4, .int .i64 a1] rfl (by (try simp only [List.map_toArray, List.map_cons, List.map_nil]); first | done | rfl) ?_; (with_reducible refine (wR.calls _ _ l0_4 a1 t102 _ ?side1 ?side2 A3.out).mono ?_); (case side1 => repeat (first | exact (Kd.C_below HR0_4.out HB.out) | (with_reducible refine Kd.C_alloc ?_ _) | (with_reducible refine Kd.C_drewN ?_ _) | (with_reducible refine Kd.C_drew ?_))); (case side2 => exact HC0_4.out); rintro e w' ⟨rfl, ⟨nd, rfl⟩⟩; refine ⟨_, rfl, ?_⟩))
  go_ret
  exact ⟨by first | rfl | (simp [*, errW_none, errW_some] <;> rfl), by repeat (first | (with_reducible first | exact HB.out | apply zG | apply zA | apply zF | refine zH ?_ GE101.out) | exact HB.out)⟩
theorem wS.calls (a0_0 : Int) (a0_1 : Int) (a0_2 : Int) (r1 : Int) (r2 : Int) (r3 : Int) (w : World) (h : wS.f a0_0 a0_1 a0_2 = some (r1, r2, r3)) :
  Calls Try.prog 26 #[.agg #[.int .i64 a0_0, .int .i64 a0_1, .int .i64 a0_2]] w fun e w' => e = .returned (.agg #[.int .i64 r1, .int .i64 r2, .int .i64 r3]) ∧ Below w.heap.size w w' := by
 have hu23 := Try.underlying23
 have hu30 := Try.underlying30
 have HB := zC.mk (Below.refl w.heap.size w)
 have H : (some (a0_0, a0_1, a0_2)) = some (r1, r2, r3) := h
 clear h
 simp only [Option.some.injEq, Prod.mk.injEq] at H
 obtain ⟨rfl, rfl, rfl⟩ := H
 go_enter Try.func26, Try.ntmps26
 go_wp2_with (first | ((with_reducible refine zQ (N := 1) rfl ?_); refine zO ?hg (N := 1) ?hd (cs := #[.int .i64 a0_0, .int .i64 a0_1, .int .i64 a0_2]) (t := 23) ?hr ?_; (case hd => rfl); (case hg => rfl); (case hr => first | (go_simp; done) | (go_simp; rfl)); intro gb253 hg w2 hbox hb; have n0_ := zC.mk (zL (by repeat (first | (with_reducible first | exact HB.out | apply zG | apply zA | apply zF) | exact HB.out)) hb); have n1_ := zC.mk (hbox); have n2_ := zC.mk ((by rw [hg]; exact (zM (by repeat (first | (with_reducible first | exact HB.out | apply zG | apply zA | apply zF) | exact HB.out))) : w.heap.size ≤ gb253)); have n3_ := n2_; clear HB; have HB := n0_; have BK253 := n1_; have GW253 := n2_; have GE253 := n3_; clear n0_ n1_ n2_ n3_; clear hb hbox hg) | ((with_reducible refine zQ (N := 2) rfl ?_); refine zO ?hg (N := 2) ?hd (cs := #[.int .i64 0, .int .i64 0, .int .i64 0]) (t := 30) ?hr ?_; (case hd => rfl); (case hg => rfl); (case hr => first | (go_simp; done) | (go_simp; rfl)); intro gb254 hg w3 hbox hb; have n0_ := zC.mk (zK (g := gb253) (o := .cells #[.int .i64 a0_0, .int .i64 a0_1, .int .i64 a0_2] 23 (0, 0)) (by (with_reducible repeat (first | refine zE ?_ _ | refine zI ?_ | refine zD ?_ _)); exact BK253.out) hb); have n1_ := zC.mk (zL (by repeat (first | (with_reducible first | exact HB.out | apply zG | apply zA | apply zF | refine zH ?_ GE253.out) | exact HB.out)) hb); have n2_ := zC.mk (hbox); have n3_ := zC.mk ((by rw [hg]; exact (zM (by repeat (first | (with_reducible first | exact HB.out | apply zG | apply zA | apply zF | refine zH ?_ GE253.out) | exact HB.out))) : w.heap.size ≤ gb254)); have n4_ := n3_; have n5_ := zC.mk ((by rw [hg]; exact Nat.ne_of_lt (zV (by (with_reducible repeat (first | refine zE ?_ _ | refine zI ?_ | refine zD ?_ _)); exact BK253.out)) : gb253 ≠ gb254)); have n6_ := zC.mk n5_.out.symm; clear BK253; clear HB; have BK253 := n0_; have HB := n1_; have BK254 := n2_; have GW254 := n3_; have GE254 := n4_; have NB253_254 := n5_; have NB254_253 := n6_; clear n0_ n1_ n2_ n3_ n4_ n5_ n6_; clear hb hbox hg) | ((with_reducible refine zQ (N := 3) rfl ?_); refine zO ?hg (N := 3) ?hd (cs := #[.int .i64 0, .int .i64 0, .int .i64 0]) (t := 30) ?hr ?_; (case hd => rfl); (case hg => rfl); (case hr => first | (go_simp; done) | (go_simp; rfl)); intro gb255 hg w4 hbox hb; have n0_ := zC.mk (zK (g := gb253) (o := .cells #[.int .i64 a0_0, .int .i64 a0_1, .int .i64 a0_2] 23 (0, 0)) (by (with_reducible repeat (first | refine zE ?_ _ | refine zI ?_ | refine zD ?_ _)); exact BK253.out) hb); have n1_ := zC.mk (zK (g := gb254) (o := .cells #[.int .i64 0, .int .i64 0, .int .i64 0] 30 (0, 0)) (by (with_reducible repeat (first | refine zE ?_ _ | refine zI ?_ | refine zD ?_ _)); exact BK254.out) hb); have n2_ := zC.mk (zL (by repeat (first | (with_reducible first | exact HB.out | apply zG | apply zA | apply zF | refine zH ?_ GE253.out | refine zH ?_ GE254.out) | exact HB.out)) hb); have n3_ := zC.mk (hbox); have n4_ := zC.mk ((by rw [hg]; exact (zM (by repeat (first | (with_reducible first | exact HB.out | apply zG | apply zA | apply zF | refine zH ?_ GE253.out | refine zH ?_ GE254.out) | exact HB.out))) : w.heap.size ≤ gb255)); have n5_ := n4_; have n6_ := zC.mk ((by rw [hg]; exact Nat.ne_of_lt (zV (by (with_reducible repeat (first | refine zE ?_ _ | refine zI ?_ | refine zD ?_ _)); exact BK253.out)) : gb253 ≠ gb255)); have n7_ := zC.mk n6_.out.symm; have n8_ := zC.mk ((by rw [hg]; exact Nat.ne_of_lt (zV (by (with_reducible repeat (first | refine zE ?_ _ | refine zI ?_ | refine zD ?_ _)); exact BK254.out)) : gb254 ≠ gb255)); have n9_ := zC.mk n8_.out.symm; clear BK253; clear BK254; clear HB; have BK253 := n0_; have BK254 := n1_; have HB := n2_; have BK255 := n3_; have GW255 := n4_; have GE255 := n5_; have NB253_255 := n6_; have NB255_253 := n7_; have NB254_255 := n8_; have NB255_254 := n9_; clear n0_ n1_ n2_ n3_ n4_ n5_ n6_ n7_ n8_ n9_; clear hb hbox hg; have hnb5 := NB253_254.out; have hnc5 := NB254_253.out; have hnb6 := NB253_255.out; have hnc6 := NB255_253.out; have hcz7_0 : w4.cell? ⟨gb253, 0, none⟩ = some (.int .i64 a0_0) := zB BK253.out 0; have hcz7_1 : w4.cell? ⟨gb253, 1, none⟩ = some (.int .i64 a0_1) := zB BK253.out 1; have hcz7_2 : w4.cell? ⟨gb253, 2, none⟩ = some (.int .i64 a0_2) := zB BK253.out 2; have hfz7_0 := zJ BK253.out 0; have hfz7_1 := zJ BK253.out 1; have hfz7_2 := zJ BK253.out 2; have hnb8 := NB255_254.out; have hnc8 := NB254_255.out; have hcz9_0 : w4.cell? ⟨gb255, 0, none⟩ = some (.int .i64 0) := zB BK255.out 0; have hcz9_1 : w4.cell? ⟨gb255, 1, none⟩ = some (.int .i64 0) := zB BK255.out 1; have hcz9_2 : w4.cell? ⟨gb255, 2, none⟩ = some (.int .i64 0) := zB BK255.out 2; have hfz9_0 := zJ BK255.out 0; have hfz9_1 := zJ BK255.out 1; have hfz9_2 := zJ BK255.out 2; have hcz10_0 : w4.cell? ⟨gb254, 0, none⟩ = some (.int .i64 0) := zB BK254.out 0; have hcz10_1 : w4.cell? ⟨gb254, 1, none⟩ = some (.int .i64 0) := zB BK254.out 1; have hcz10_2 : w4.cell? ⟨gb254, 2, none⟩ = some (.int .i64 0) := zB BK254.out 2; have hfz10_0 := zJ BK254.out 0; have hfz10_1 := zJ BK254.out 1; have hfz10_2 := zJ BK254.out 2))
 refine bodyPost_ret (results_cell_row rfl _ _ gb254 30 #[.int .i64 a0_0, .int .i64 a0_1, .int .i64 a0_2] (0, 0) _ rfl (by (with_reducible repeat (first | refine zE ?_ _ | refine zI ?_ | refine zD ?_ _)); refine zS (cs := #[.int .i64 a0_0, .int .i64 a0_1, .int .i64 0]) ?_ 2 _ rfl; (with_reducible repeat (first | refine zE ?_ _ | refine zI ?_ | refine zD ?_ _)); refine zS (cs := #[.int .i64 a0_0, .int .i64 0, .int .i64 0]) ?_ 1 _ rfl; (with_reducible repeat (first | refine zE ?_ _ | refine zI ?_ | refine zD ?_ _)); refine zS (cs := #[.int .i64 0, .int .i64 0, .int .i64 0]) ?_ 0 _ rfl; (with_reducible repeat (first | refine zE ?_ _ | refine zI ?_ | refine zD ?_ _)); refine zU ?_ NB254_255.out _; (with_reducible repeat (first | refine zE ?_ _ | refine zI ?_ | refine zD ?_ _)); refine zU ?_ NB254_255.out _; (with_reducible repeat (first | refine zE ?_ _ | refine zI ?_ | refine zD ?_ _)); refine zU ?_ NB254_255.out _; (with_reducible repeat (first | refine zE ?_ _ | refine zI ?_ | refine zD ?_ _)); exact BK254.out) Try.underlying30 rfl (by kernel_rfl)) rfl ?_
 exact ⟨by first | rfl | (simp [*, errW_none, errW_some] <;> rfl), by repeat (first | (with_reducible first | exact HB.out | apply zG | apply zA | apply zF | refine zH ?_ GE253.out | refine zH ?_ GE254.out | refine zH ?_ GE255.out) | exact HB.out)⟩
theorem xC.calls (k : Nat) (A0 : Option Addr) (c0 : Nat) (l0 : List Int) (r : List Int) (w : World) (hr0 : Kd.C (Kd.int .i64) w A0 l0.length l0) (hc0 : l0.length ≤ c0) (h : xC.f k l0 = some r) :
  Calls Try.prog 50 #[.slice A0 l0.length c0] w fun e w' => ∃ v0_ : Value, e = .returned (v0_) ∧ Kd.R (Kd.int .i64) 2 w' w.heap.size (fun _ => True) v0_ r ∧ Below w.heap.size w w' := by
 have HR0 := zC.mk hr0
 have HC0 := zC.mk hc0
 clear hr0 hc0
 have HB := zC.mk (Below.refl w.heap.size w)
 have H : (if 0 ≤ (l0.length : Int) then (if ((l0.length : Int) : Int).toNat ≤ 35184372088832 then (xC.l0 k l0 (List.replicate ((l0.length : Int) : Int).toNat 0) 0) else (none)) else (none)) = some r := h
 clear h
 by_cases c2 : 0 ≤ (l0.length : Int)
 ·
  rw [if_pos c2] at H
  have c2b0 := eq_true c2
  have c2b1 : decide (0 ≤ (l0.length : Int)) = true := decide_eq_true c2
  clear c2
  by_cases c3 : ((l0.length : Int) : Int).toNat ≤ 35184372088832
  ·
   rw [if_pos c3] at H
   have c3b0 := eq_true c3
   have c3b1 : decide (((l0.length : Int) : Int).toNat ≤ 35184372088832) = true := decide_eq_true c3
   clear c3
   obtain ⟨y256, hy256⟩ : ∃ y_ : List Int, y_ = (List.replicate ((l0.length : Int) : Int).toNat 0) := ⟨_, rfl⟩
   replace H : (xC.l0 k l0 y256 0) = some r := by first | (rw [hy256]; with_reducible exact H) | (have H2_ := (Option.bind_some _ _).symm.trans H; rw [hy256]; with_reducible exact H2_) | (have H2_ := (Option.bind_some _ _).symm.trans H; with_reducible exact H2_) | with_reducible exact H | (rw [hy256]; exact H) | exact H
   have Ny256 := zC.mk hy256
   clear hy256
   have H' := zC.mk H
   clear H
   go_enter Try.func50, Try.ntmps50
   go_wp2_with (first | ((with_reducible refine zQ (N := 7) rfl ?_); refine Kd.R_make (Kd.int .i64) _ 2 rfl (N := 7) rfl 24 _ _ rfl (l0.length : Int) rfl rfl Try.underlying24 (.int .i64 0) 8 info2 rfl (by decide) (by omega) 0 (ok := fun _ => True) (okp := fun _ => True) rfl (fun _ hk => hk) trivial (of_decide_eq_true (by first | (with_reducible assumption) | assumption)) (Nat.le_trans (Nat.mul_le_mul_right _ (of_decide_eq_true (by first | (with_reducible assumption) | assumption) : (l0.length : Int).toNat ≤ 35184372088832)) (by omega)) (Below.refl _ _) (Nat.le_refl _) ?_; intro v257 w4 ho5 hb hg_ hnew_; clear hg_ hnew_; (first | rw [← Ny256.out] at ho5 | (simp only [Int.reduceToNat] at ho5; rw [← Ny256.out] at ho5)); have n0_ := zC.mk (Kd.R_lower ho5 (zM (by repeat (first | (with_reducible first | exact HB.out | apply zG | apply zA | apply zF) | exact HB.out)))); have n1_ := zC.mk (zL (by repeat (first | (with_reducible first | exact HB.out | apply zG | apply zA | apply zF) | exact HB.out)) hb); clear HB; have HO258 := n0_; have HB := n1_; clear n0_ n1_; clear hb ho5))
   go_loopg [4] k (fun kq v4 w' => ∃ (x3_1 : List Int) (x4_1 : Int), v4 = .int .i64 x4_1 ∧ zC (xC.l0 kq l0 x3_1 x4_1 = some r) ∧ zC (kq ≤ k) ∧ zC (Kd.R (Kd.int .i64) 2 w' w.heap.size (fun _ => True) v257 x3_1) ∧ zC (Below w.heap.size w w'))
   case atStart => exact ⟨(y256), (0), (by first | rfl | (simp; done) | (simp [*]; done)), H', ⟨Nat.le_refl _⟩, ⟨by (with_reducible repeat (first | apply Kd.R_alloc | apply Kd.R_drewN | apply Kd.R_drew)); exact HO258.out⟩, ⟨by repeat (first | (with_reducible first | exact HB.out | apply zG | apply zA | apply zF) | exact HB.out)⟩⟩
   case round =>
    clear H'
    try clear c2
    try clear c2b0
    try clear c2b1
    try clear p2
    try clear c3
    try clear c3b0
    try clear c3b1
    try clear c5
    obtain ⟨x3_1, x4_1, rfl, HA, HK1, HO_3, HB⟩ := hrel
    cases gk with
    | zero => exact absurd HA.out (by simp [xC.l0])
    | succ k1 =>
     have H := HA.out
     clear HA
     simp only [xC.l0] at H
     by_cases c6 : x4_1 < (l0.length : Int)
     ·
      rw [if_pos c6] at H
      have c6b0 : decide (x4_1 < (l0.length : Int)) = true := decide_eq_true c6
      clear c6
      by_cases c7 : 0 ≤ x4_1
      ·
       rw [if_pos c7] at H
       have c7b0 : decide (0 ≤ x4_1) = true := decide_eq_true c7
       clear c7
       by_cases c8 : x4_1 < (x3_1.length : Int)
       ·
        rw [if_pos c8] at H
        have c8b0 : decide (x4_1 < (x3_1.length : Int)) = true := decide_eq_true c8
        clear c8
        obtain ⟨y260, hy260⟩ : ∃ y_ : List Int, y_ = (x3_1.set (x4_1 : Int).toNat (rd l0 x4_1)) := ⟨_, rfl⟩
        replace H : (xC.l0 k1 l0 y260 (wrap64 (x4_1 + 1))) = some r := by first | (rw [hy260]; with_reducible exact H) | (have H2_ := (Option.bind_some _ _).symm.trans H; rw [hy260]; with_reducible exact H2_) | (have H2_ := (Option.bind_some _ _).symm.trans H; with_reducible exact H2_) | with_reducible exact H | (rw [hy260]; exact H) | exact H
        have Ny260 := zC.mk hy260
        clear hy260
        have H' := zC.mk H
        clear H
        have p259 : 0 ≤ (x4_1 : Int) := of_decide_eq_true (by first | (with_reducible assumption) | assumption)
        have q259 : x4_1 < (l0.length : Int) := of_decide_eq_true (by first | (with_reducible assumption) | assumption)
        obtain ⟨ad259, e259, hx259_0⟩ := Kd.at_int HR0.out x4_1 p259 q259
        cases e259
        replace hx259_0 := (HB.out.cell (World.block_lt_of_cell? w _ hx259_0)).trans hx259_0
        replace p259 := eq_true p259
        replace q259 := eq_true q259
        have p9 : 0 ≤ (x4_1 : Int) := of_decide_eq_true (by first | (with_reducible assumption) | assumption)
        have q9 : (x4_1 : Int) < ((x3_1.length : Int) : Int) := of_decide_eq_true (by first | (with_reducible assumption) | assumption)
        obtain ⟨go9, co9, eo9, gb9, gl9, cl9, HG9⟩ := Kd.R_form HO_3.out (by omega)
        (first | cases eo9 | (injection eo9 with ea_ en_ ec_; (first | subst ea_ | (injection ea_ with ea_; subst ea_)); subst ec_; clear en_))
        have GB9 := zC.mk gb9
        have GG9 := zC.mk HG9
        clear gb9 gl9 HG9
        obtain ⟨hx9_0, hf9_0⟩ := Kd.R_celln 0 HO_3.out (x4_1 : Int) p9 q9
        replace p9 := eq_true p9
        replace q9 := eq_true q9
        have HP10 := Kd.R_putg HO_3.out (x4_1 : Int) (rd l0 x4_1)
        go_wp2_with (first | ((with_reducible refine gate_store (t := 2) (p := 20) rfl ?_); refine store_event (t := 2) (p := 20) (v := ?vo_w11) (w1 := (wr.setCell ⟨go9, (x4_1 : Int).toNat, none⟩ (.int .i64 (rd l0 x4_1)))) ?hg ?ho ?hn ?hr ?_; (case ho => rfl); (case hg => rfl); (case hn => rfl); (case hr => first | (go_simp; done) | (go_simp; rfl)); intro w11 hw; have hg : wr.grownBy w11 (some go9) := (by rw [hw]; exact HP10.2); have hp_ : Kd.R (Kd.int .i64) 2 w11 w.heap.size (fun _ => True) (.slice (some ⟨go9, 0, none⟩) x3_1.length co9) y260 := (by rw [hw, Ny260.out]; exact HP10.1); clear HP10; have n0_ := zC.mk (hp_); have n1_ := zC.mk ((by rw [hw]; exact zH (HB.out) GB9.out : Below w.heap.size w w11)); clear HO_3; clear HB; have HO_3 := n0_; have HB := n1_; clear n0_ n1_; clear hg hw hp_))
        go_roundg k1
        case measure => have := HK1.out; omega
        case rel => exact ⟨(y260), (wrap64 (x4_1 + 1)), (by first | rfl | (simp; done) | (simp [*]; done)), H', ⟨by have := HK1.out; omega⟩, ⟨by (with_reducible repeat (first | apply Kd.R_alloc | apply Kd.R_drewN | apply Kd.R_drew)); exact HO_3.out⟩, ⟨by repeat (first | (with_reducible first | exact HB.out | apply zG | apply zA | apply zF) | exact HB.out)⟩⟩
       ·
        rw [if_neg c8] at H
        exact absurd H (by simp)
      ·
       rw [if_neg c7] at H
       exact absurd H (by simp)
     ·
      rw [if_neg c6] at H
      have c6b0 : decide (x4_1 < (l0.length : Int)) = false := decide_eq_false c6
      clear c6
      obtain rfl := Option.some.inj H
      go_wp2
      go_ret
      exact ⟨_, by first | rfl | (simp [*, errW_none, errW_some] <;> rfl), by (with_reducible repeat (first | apply Kd.R_alloc | apply Kd.R_drewN | apply Kd.R_drew)); exact HO_3.out, by repeat (first | (with_reducible first | exact HB.out | apply zG | apply zA | apply zF) | exact HB.out)⟩
  ·
   rw [if_neg c3] at H
   exact absurd H (by simp)
 ·
  rw [if_neg c2] at H
  exact absurd H (by simp)
theorem yZ.calls (k : Nat) (a0_0 : Int) (a0_1 : Int) (a0_2 : Int) (a0_3 : Int) (A0_4 : Option Addr) (c0_4 : Nat) (l0_4 : List Int) (r1 : Int) (r2 : Int) (r3 : Int) (r4 : Int) (r5 : List Int) (w : World) (hr0_4 : Kd.C (Kd.int .i64) w A0_4 l0_4.length l0_4) (hc0_4 : l0_4.length ≤ c0_4) (h : yZ.f k a0_0 a0_1 a0_2 a0_3 l0_4 = some (r1, r2, r3, r4, r5)) :
  Calls Try.prog 14 #[.agg #[.int .i64 a0_0, .int .i64 a0_1, .int .i64 a0_2, .int .i64 a0_3, .slice A0_4 l0_4.length c0_4]] w fun e w' => ∃ v4_ : Value, e = .returned (.agg #[.int .i64 r1, .int .i64 r2, .int .i64 r3, .int .i64 r4, v4_]) ∧ Kd.R (Kd.int .i64) 2 w' w.heap.size (fun _ => True) v4_ r5 ∧ Below w.heap.size w w' := by
 have hu26 := Try.underlying26
 have hu32 := Try.underlying32
 have hu23 := Try.underlying23
 have hu30 := Try.underlying30
 have HR0_4 := zC.mk hr0_4
 have HC0_4 := zC.mk hc0_4
 clear hr0_4 hc0_4
 have HB := zC.mk (Below.refl w.heap.size w)
 have H : ((wS.f a0_1 a0_2 a0_3).bind fun bt264 => ((xC.f k l0_4).bind fun t267 => (some (a0_0, bt264.1, bt264.2.1, bt264.2.2, t267)))) = some (r1, r2, r3, r4, r5) := h
 clear h
 replace H := Option.bind_eq_some_iff.mp H
 obtain ⟨⟨t264, t265, t266⟩, A20, H⟩ := H
 replace H : ((xC.f k l0_4).bind fun t267 => (some (a0_0, t264, t265, t266, t267))) = some (r1, r2, r3, r4, r5) := H
 have A2 := zC.mk A20
 clear A20
 replace H := Option.bind_eq_some_iff.mp H
 obtain ⟨t267, A30, H⟩ := H
 replace H : (some (a0_0, t264, t265, t266, t267)) = some (r1, r2, r3, r4, r5) := H
 have A3 := zC.mk A30
 clear A30
 simp only [Option.some.injEq, Prod.mk.injEq] at H
 obtain ⟨rfl, rfl, rfl, rfl, rfl⟩ := H
 go_enter Try.func14, Try.ntmps14
 go_wp2_with (first | ((with_reducible refine zQ (N := 1) rfl ?_); refine zO ?hg (N := 1) ?hd (cs := #[.int .i64 a0_0, .int .i64 a0_1, .int .i64 a0_2, .int .i64 a0_3, .slice A0_4 l0_4.length c0_4]) (t := 26) ?hr ?_; (case hd => rfl); (case hg => rfl); (case hr => first | (go_simp; done) | (go_simp; rfl)); intro gb261 hg w4 hbox hb; have n0_ := zC.mk (zL (by repeat (first | (with_reducible first | exact HB.out | apply zG | apply zA | apply zF) | exact HB.out)) hb); have n1_ := zC.mk (hbox); have n2_ := zC.mk ((by rw [hg]; exact (zM (by repeat (first | (with_reducible first | exact HB.out | apply zG | apply zA | apply zF) | exact HB.out))) : w.heap.size ≤ gb261)); have n3_ := n2_; clear HB; have HB := n0_; have BK261 := n1_; have GW261 := n2_; have GE261 := n3_; clear n0_ n1_ n2_ n3_; clear hb hbox hg) | ((with_reducible refine zQ (N := 2) rfl ?_); refine zO ?hg (N := 2) ?hd (cs := #[.int .i64 0, .int .i64 0, .int .i64 0, .int .i64 0, .slice none 0 0]) (t := 32) ?hr ?_; (case hd => rfl); (case hg => rfl); (case hr => first | (go_simp; done) | (go_simp; rfl)); intro gb262 hg w5 hbox hb; have n0_ := zC.mk (zK (g := gb261) (o := .cells #[.int .i64 a0_0, .int .i64 a0_1, .int .i64 a0_2, .int .i64 a0_3, .slice A0_4 l0_4.length c0_4] 26 (0, 0)) (by (with_reducible repeat (first | refine zE ?_ _ | refine zI ?_ | refine zD ?_ _)); exact BK261.out) hb); have n1_ := zC.mk (zL (by repeat (first | (with_reducible first | exact HB.out | apply zG | apply zA | apply zF | refine zH ?_ GE261.out) | exact HB.out)) hb); have n2_ := zC.mk (hbox); have n3_ := zC.mk ((by rw [hg]; exact (zM (by repeat (first | (with_reducible first | exact HB.out | apply zG | apply zA | apply zF | refine zH ?_ GE261.out) | exact HB.out))) : w.heap.size ≤ gb262)); have n4_ := n3_; have n5_ := zC.mk ((by rw [hg]; exact Nat.ne_of_lt (zV (by (with_reducible repeat (first | refine zE ?_ _ | refine zI ?_ | refine zD ?_ _)); exact BK261.out)) : gb261 ≠ gb262)); have n6_ := zC.mk n5_.out.symm; clear BK261; clear HB; have BK261 := n0_; have HB := n1_; have BK262 := n2_; have GW262 := n3_; have GE262 := n4_; have NB261_262 := n5_; have NB262_261 := n6_; clear n0_ n1_ n2_ n3_ n4_ n5_ n6_; clear hb hbox hg) | ((with_reducible refine zQ (N := 3) rfl ?_); refine zO ?hg (N := 3) ?hd (cs := #[.int .i64 0, .int .i64 0, .int .i64 0, .int .i64 0, .slice none 0 0]) (t := 32) ?hr ?_; (case hd => rfl); (case hg => rfl); (case hr => first | (go_simp; done) | (go_simp; rfl)); intro gb263 hg w6 hbox hb; have n0_ := zC.mk (zK (g := gb261) (o := .cells #[.int .i64 a0_0, .int .i64 a0_1, .int .i64 a0_2, .int .i64 a0_3, .slice A0_4 l0_4.length c0_4] 26 (0, 0)) (by (with_reducible repeat (first | refine zE ?_ _ | refine zI ?_ | refine zD ?_ _)); exact BK261.out) hb); have n1_ := zC.mk (zK (g := gb262) (o := .cells #[.int .i64 0, .int .i64 0, .int .i64 0, .int .i64 0, .slice none 0 0] 32 (0, 0)) (by (with_reducible repeat (first | refine zE ?_ _ | refine zI ?_ | refine zD ?_ _)); exact BK262.out) hb); have n2_ := zC.mk (zL (by repeat (first | (with_reducible first | exact HB.out | apply zG | apply zA | apply zF | refine zH ?_ GE261.out | refine zH ?_ GE262.out) | exact HB.out)) hb); have n3_ := zC.mk (hbox); have n4_ := zC.mk ((by rw [hg]; exact (zM (by repeat (first | (with_reducible first | exact HB.out | apply zG | apply zA | apply zF | refine zH ?_ GE261.out | refine zH ?_ GE262.out) | exact HB.out))) : w.heap.size ≤ gb263)); have n5_ := n4_; have n6_ := zC.mk ((by rw [hg]; exact Nat.ne_of_lt (zV (by (with_reducible repeat (first | refine zE ?_ _ | refine zI ?_ | refine zD ?_ _)); exact BK261.out)) : gb261 ≠ gb263)); have n7_ := zC.mk n6_.out.symm; have n8_ := zC.mk ((by rw [hg]; exact Nat.ne_of_lt (zV (by (with_reducible repeat (first | refine zE ?_ _ | refine zI ?_ | refine zD ?_ _)); exact BK262.out)) : gb262 ≠ gb263)); have n9_ := zC.mk n8_.out.symm; clear BK261; clear BK262; clear HB; have BK261 := n0_; have BK262 := n1_; have HB := n2_; have BK263 := n3_; have GW263 := n4_; have GE263 := n5_; have NB261_263 := n6_; have NB263_261 := n7_; have NB262_263 := n8_; have NB263_262 := n9_; clear n0_ n1_ n2_ n3_ n4_ n5_ n6_ n7_ n8_ n9_; clear hb hbox hg; have hnb7 := NB261_262.out; have hnc7 := NB262_261.out; have hnb8 := NB261_263.out; have hnc8 := NB263_261.out; have hcz9_0 : w6.cell? ⟨gb261, 0, none⟩ = some (.int .i64 a0_0) := zB BK261.out 0; have hcz9_1 : w6.cell? ⟨gb261, 1, none⟩ = some (.int .i64 a0_1) := zB BK261.out 1; have hcz9_2 : w6.cell? ⟨gb261, 2, none⟩ = some (.int .i64 a0_2) := zB BK261.out 2; have hcz9_3 : w6.cell? ⟨gb261, 3, none⟩ = some (.int .i64 a0_3) := zB BK261.out 3; have hcz9_4 : w6.cell? ⟨gb261, 4, none⟩ = some (.slice A0_4 l0_4.length c0_4) := zB BK261.out 4; have hfz9_0 := zJ BK261.out 0; have hfz9_1 := zJ BK261.out 1; have hfz9_2 := zJ BK261.out 2; have hfz9_3 := zJ BK261.out 3; have hfz9_4 := zJ BK261.out 4; have hnb10 := NB263_262.out; have hnc10 := NB262_263.out; have hcz11_0 : w6.cell? ⟨gb263, 0, none⟩ = some (.int .i64 0) := zB BK263.out 0; have hcz11_1 : w6.cell? ⟨gb263, 1, none⟩ = some (.int .i64 0) := zB BK263.out 1; have hcz11_2 : w6.cell? ⟨gb263, 2, none⟩ = some (.int .i64 0) := zB BK263.out 2; have hcz11_3 : w6.cell? ⟨gb263, 3, none⟩ = some (.int .i64 0) := zB BK263.out 3; have hcz11_4 : w6.cell? ⟨gb263, 4, none⟩ = some (.slice none 0 0) := zB BK263.out 4; have hfz11_0 := zJ BK263.out 0; have hfz11_1 := zJ BK263.out 1; have hfz11_2 := zJ BK263.out 2; have hfz11_3 := zJ BK263.out 3; have hfz11_4 := zJ BK263.out 4) | ((with_reducible refine zP (f := 26) rfl ?_); refine zX (some 9) rfl rfl Try.func26 (by kernel_rfl) rfl #[.agg #[.int .i64 a0_1, .int .i64 a0_2, .int .i64 a0_3]] rfl (by (try simp only [List.map_toArray, List.map_cons, List.map_nil]); first | done | rfl) ?_; (with_reducible refine (wS.calls a0_1 a0_2 a0_3 t264 t265 t266 _ A2.out).mono ?_); rintro e w12 ⟨rfl, hb⟩; refine ⟨_, rfl, ?_⟩; have n0_ := zC.mk (zK (g := gb261) (o := .cells #[.int .i64 a0_0, .int .i64 a0_1, .int .i64 a0_2, .int .i64 a0_3, .slice A0_4 l0_4.length c0_4] 26 (0, 0)) (by (with_reducible repeat (first | refine zE ?_ _ | refine zI ?_ | refine zD ?_ _)); refine zU ?_ NB261_263.out _; (with_reducible repeat (first | refine zE ?_ _ | refine zI ?_ | refine zD ?_ _)); exact BK261.out) hb); have n1_ := zC.mk (zK (g := gb262) (o := .cells #[.int .i64 0, .int .i64 0, .int .i64 0, .int .i64 0, .slice none 0 0] 32 (0, 0)) (by (with_reducible repeat (first | refine zE ?_ _ | refine zI ?_ | refine zD ?_ _)); refine zU ?_ NB262_263.out _; (with_reducible repeat (first | refine zE ?_ _ | refine zI ?_ | refine zD ?_ _)); exact BK262.out) hb); have n2_ := zC.mk (zK (g := gb263) (o := .cells #[.int .i64 a0_0, .int .i64 0, .int .i64 0, .int .i64 0, .slice none 0 0] 32 (0, 0)) (by (with_reducible repeat (first | refine zE ?_ _ | refine zI ?_ | refine zD ?_ _)); refine zS (cs := #[.int .i64 0, .int .i64 0, .int .i64 0, .int .i64 0, .slice none 0 0]) ?_ 0 _ rfl; (with_reducible repeat (first | refine zE ?_ _ | refine zI ?_ | refine zD ?_ _)); exact BK263.out) hb); have n3_ := zC.mk (zL (by repeat (first | (with_reducible first | exact HB.out | apply zG | apply zA | apply zF | refine zH ?_ GE261.out | refine zH ?_ GE262.out | refine zH ?_ GE263.out) | exact HB.out)) hb); clear BK261; clear BK262; clear BK263; clear HB; have BK261 := n0_; have BK262 := n1_; have BK263 := n2_; have HB := n3_; clear n0_ n1_ n2_ n3_; (try clear hb); have hcz13_0 : w12.cell? ⟨gb263, 0, none⟩ = some (.int .i64 a0_0) := zB BK263.out 0; have hcz13_1 : w12.cell? ⟨gb263, 1, none⟩ = some (.int .i64 0) := zB BK263.out 1; have hcz13_2 : w12.cell? ⟨gb263, 2, none⟩ = some (.int .i64 0) := zB BK263.out 2; have hcz13_3 : w12.cell? ⟨gb263, 3, none⟩ = some (.int .i64 0) := zB BK263.out 3; have hcz13_4 : w12.cell? ⟨gb263, 4, none⟩ = some (.slice none 0 0) := zB BK263.out 4; have hfz13_0 := zJ BK263.out 0; have hfz13_1 := zJ BK263.out 1; have hfz13_2 := zJ BK263.out 2; have hfz13_3 := zJ BK263.out 3; have hfz13_4 := zJ BK263.out 4; have hcz14_0 : w12.cell? ⟨gb261, 0, none⟩ = some (.int .i64 a0_0) := zB BK261.out 0; have hcz14_1 : w12.cell? ⟨gb261, 1, none⟩ = some (.int .i64 a0_1) := zB BK261.out 1; have hcz14_2 : w12.cell? ⟨gb261, 2, none⟩ = some (.int .i64 a0_2) := zB BK261.out 2; have hcz14_3 : w12.cell? ⟨gb261, 3, none⟩ = some (.int .i64 a0_3) := zB BK261.out 3; have hcz14_4 : w12.cell? ⟨gb261, 4, none⟩ = some (.slice A0_4 l0_4.length c0_4) := zB BK261.out 4; have hfz14_0 := zJ BK261.out 0; have hfz14_1 := zJ BK261.out 1; have hfz14_2 := zJ BK261.out 2; have hfz14_3 := zJ BK261.out 3; have hfz14_4 := zJ BK261.out 4) | ((with_reducible refine zP (f := 50) rfl ?_); refine zX (some 13) rfl rfl Try.func50 (by kernel_rfl) rfl #[.slice A0_4 l0_4.length c0_4] rfl (by (try simp only [List.map_toArray, List.map_cons, List.map_nil]); first | done | rfl) ?_; (with_reducible refine (xC.calls k _ _ l0_4 t267 _ ?side1 ?side2 A3.out).mono ?_); (case side1 => exact Kd.C_below HR0_4.out (by repeat (first | (with_reducible first | exact HB.out | apply zG | apply zA | apply zF | refine zH ?_ GE261.out | refine zH ?_ GE262.out | refine zH ?_ GE263.out) | exact HB.out))); (case side2 => exact HC0_4.out); rintro e w15 ⟨v268, rfl, ho0, hb⟩; refine ⟨_, rfl, ?_⟩; have n0_ := zC.mk (Kd.R_lower ho0 (zM (by repeat (first | (with_reducible first | exact HB.out | apply zG | apply zA | apply zF | refine zH ?_ GE261.out | refine zH ?_ GE262.out | refine zH ?_ GE263.out) | exact HB.out)))); have n1_ := zC.mk (zK (g := gb261) (o := .cells #[.int .i64 a0_0, .int .i64 a0_1, .int .i64 a0_2, .int .i64 a0_3, .slice A0_4 l0_4.length c0_4] 26 (0, 0)) (by (with_reducible repeat (first | refine zE ?_ _ | refine zI ?_ | refine zD ?_ _)); refine zU ?_ NB261_263.out _; (with_reducible repeat (first | refine zE ?_ _ | refine zI ?_ | refine zD ?_ _)); refine zU ?_ NB261_263.out _; (with_reducible repeat (first | refine zE ?_ _ | refine zI ?_ | refine zD ?_ _)); refine zU ?_ NB261_263.out _; (with_reducible repeat (first | refine zE ?_ _ | refine zI ?_ | refine zD ?_ _)); exact BK261.out) hb); have n2_ := zC.mk (zK (g := gb262) (o := .cells #[.int .i64 0, .int .i64 0, .int .i64 0, .int .i64 0, .slice none 0 0] 32 (0, 0)) (by (with_reducible repeat (first | refine zE ?_ _ | refine zI ?_ | refine zD ?_ _)); refine zU ?_ NB262_263.out _; (with_reducible repeat (first | refine zE ?_ _ | refine zI ?_ | refine zD ?_ _)); refine zU ?_ NB262_263.out _; (with_reducible repeat (first | refine zE ?_ _ | refine zI ?_ | refine zD ?_ _)); refine zU ?_ NB262_263.out _; (with_reducible repeat (first | refine zE ?_ _ | refine zI ?_ | refine zD ?_ _)); exact BK262.out) hb); have n3_ := zC.mk (zK (g := gb263) (o := .cells #[.int .i64 a0_0, .int .i64 t264, .int .i64 t265, .int .i64 t266, .slice none 0 0] 32 (0, 0)) (by (with_reducible repeat (first | refine zE ?_ _ | refine zI ?_ | refine zD ?_ _)); refine zS (cs := #[.int .i64 a0_0, .int .i64 t264, .int .i64 t265, .int .i64 0, .slice none 0 0]) ?_ 3 _ rfl; (with_reducible repeat (first | refine zE ?_ _ | refine zI ?_ | refine zD ?_ _)); refine zS (cs := #[.int .i64 a0_0, .int .i64 t264, .int .i64 0, .int .i64 0, .slice none 0 0]) ?_ 2 _ rfl; (with_reducible repeat (first | refine zE ?_ _ | refine zI ?_ | refine zD ?_ _)); refine zS (cs := #[.int .i64 a0_0, .int .i64 0, .int .i64 0, .int .i64 0, .slice none 0 0]) ?_ 1 _ rfl; (with_reducible repeat (first | refine zE ?_ _ | refine zI ?_ | refine zD ?_ _)); exact BK263.out) hb); have n4_ := zC.mk (zL (by repeat (first | (with_reducible first | exact HB.out | apply zG | apply zA | apply zF | refine zH ?_ GE261.out | refine zH ?_ GE262.out | refine zH ?_ GE263.out) | exact HB.out)) hb); clear BK261; clear BK262; clear BK263; clear HB; have HO269 := n0_; have BK261 := n1_; have BK262 := n2_; have BK263 := n3_; have HB := n4_; clear n0_ n1_ n2_ n3_ n4_; (try clear hb); (try clear ho0); obtain ⟨Ao16, co16, eo16⟩ := Kd.R_slice HO269.out; subst eo16; have hcz17_0 : w15.cell? ⟨gb263, 0, none⟩ = some (.int .i64 a0_0) := zB BK263.out 0; have hcz17_1 : w15.cell? ⟨gb263, 1, none⟩ = some (.int .i64 t264) := zB BK263.out 1; have hcz17_2 : w15.cell? ⟨gb263, 2, none⟩ = some (.int .i64 t265) := zB BK263.out 2; have hcz17_3 : w15.cell? ⟨gb263, 3, none⟩ = some (.int .i64 t266) := zB BK263.out 3; have hcz17_4 : w15.cell? ⟨gb263, 4, none⟩ = some (.slice none 0 0) := zB BK263.out 4; have hfz17_0 := zJ BK263.out 0; have hfz17_1 := zJ BK263.out 1; have hfz17_2 := zJ BK263.out 2; have hfz17_3 := zJ BK263.out 3; have hfz17_4 := zJ BK263.out 4; have hcz18_0 : w15.cell? ⟨gb262, 0, none⟩ = some (.int .i64 0) := zB BK262.out 0; have hcz18_1 : w15.cell? ⟨gb262, 1, none⟩ = some (.int .i64 0) := zB BK262.out 1; have hcz18_2 : w15.cell? ⟨gb262, 2, none⟩ = some (.int .i64 0) := zB BK262.out 2; have hcz18_3 : w15.cell? ⟨gb262, 3, none⟩ = some (.int .i64 0) := zB BK262.out 3; have hcz18_4 : w15.cell? ⟨gb262, 4, none⟩ = some (.slice none 0 0) := zB BK262.out 4; have hfz18_0 := zJ BK262.out 0; have hfz18_1 := zJ BK262.out 1; have hfz18_2 := zJ BK262.out 2; have hfz18_3 := zJ BK262.out 3; have hfz18_4 := zJ BK262.out 4))
 refine bodyPost_ret (results_cell_row rfl _ _ gb262 32 #[.int .i64 a0_0, .int .i64 t264, .int .i64 t265, .int .i64 t266, .slice Ao16 t267.length co16] (0, 0) _ rfl (by (with_reducible repeat (first | refine zE ?_ _ | refine zI ?_ | refine zD ?_ _)); refine zS (cs := #[.int .i64 a0_0, .int .i64 t264, .int .i64 t265, .int .i64 t266, .slice none 0 0]) ?_ 4 _ rfl; (with_reducible repeat (first | refine zE ?_ _ | refine zI ?_ | refine zD ?_ _)); refine zS (cs := #[.int .i64 a0_0, .int .i64 t264, .int .i64 t265, .int .i64 0, .slice none 0 0]) ?_ 3 _ rfl; (with_reducible repeat (first | refine zE ?_ _ | refine zI ?_ | refine zD ?_ _)); refine zS (cs := #[.int .i64 a0_0, .int .i64 t264, .int .i64 0, .int .i64 0, .slice none 0 0]) ?_ 2 _ rfl; (with_reducible repeat (first | refine zE ?_ _ | refine zI ?_ | refine zD ?_ _)); refine zS (cs := #[.int .i64 a0_0, .int .i64 0, .int .i64 0, .int .i64 0, .slice none 0 0]) ?_ 1 _ rfl; (with_reducible repeat (first | refine zE ?_ _ | refine zI ?_ | refine zD ?_ _)); refine zS (cs := #[.int .i64 0, .int .i64 0, .int .i64 0, .int .i64 0, .slice none 0 0]) ?_ 0 _ rfl; (with_reducible repeat (first | refine zE ?_ _ | refine zI ?_ | refine zD ?_ _)); refine zU ?_ NB262_263.out _; (with_reducible repeat (first | refine zE ?_ _ | refine zI ?_ | refine zD ?_ _)); exact BK262.out) Try.underlying32 rfl (by kernel_rfl)) rfl ?_
 exact ⟨_, by first | rfl | (simp [*, errW_none, errW_some] <;> rfl), by (with_reducible repeat (first | apply Kd.R_alloc | apply Kd.R_drewN | apply Kd.R_drew)); exact Kd.R_mono (Kd.R_far (p := ⟨gb262, 4, none⟩) (Kd.R_far (p := ⟨gb262, 3, none⟩) (Kd.R_far (p := ⟨gb262, 2, none⟩) (Kd.R_far (p := ⟨gb262, 1, none⟩) (Kd.R_far (p := ⟨gb262, 0, none⟩) (Kd.R_far (p := ⟨gb263, 4, none⟩) (Kd.R_types (Kd.R_types HO269.out BK263.out (by decide)) BK262.out (by decide)) (fun _ hk => hk.1.2) (.slice Ao16 t267.length co16)) (fun _ hk => hk.2) (.int .i64 a0_0)) (fun _ hk => hk.2) (.int .i64 t264)) (fun _ hk => hk.2) (.int .i64 t265)) (fun _ hk => hk.2) (.int .i64 t266)) (fun _ hk => hk.2) (.slice Ao16 t267.length co16)) (fun _ hk => trivial), by repeat (first | (with_reducible first | exact HB.out | apply zG | apply zA | apply zF | refine zH ?_ GE261.out | refine zH ?_ GE262.out | refine zH ?_ GE263.out) | exact HB.out)⟩
theorem yN.calls (k : Nat) (A0 : Option Addr) (c0 : Nat) (l0 : List Int) (A1 : Option Addr) (c1 : Nat) (l1 : List Int) (r : Bool) (w : World) (hr0 : Kd.C (Kd.int .i64) w A0 l0.length l0) (hc0 : l0.length ≤ c0) (hr1 : Kd.C (Kd.int .i64) w A1 l1.length l1) (hc1 : l1.length ≤ c1) (h : yN.f k l0 l1 = some r) :
  Calls Try.prog 19 #[.slice A0 l0.length c0, .slice A1 l1.length c1] w fun e w' => e = .returned (.bool r) ∧ Drawn0 w w' := by
 have HR0 := zC.mk hr0
 have HC0 := zC.mk hc0
 clear hr0 hc0
 have HR1 := zC.mk hr1
 have HC1 := zC.mk hc1
 clear hr1 hc1
 have H : (if (l0.length : Int) = (l1.length : Int) then (yN.l0 k l0 l1 0) else (some false)) = some r := h
 clear h
 by_cases c3 : (l0.length : Int) = (l1.length : Int)
 ·
  rw [if_pos c3] at H
  have c3b0 : ((l0.length : Int) == (l1.length : Int)) = true := beq_iff_eq.mpr c3
  have c3b1 : ((l0.length : Int) != (l1.length : Int)) = false := bne_eq_false_iff_eq.mpr c3
  have c3b2 : (l0.length == l1.length) = true := by first | simpa using c3 | (simp at c3 ⊢; omega)
  clear c3
  have H' := zC.mk H
  clear H
  go_enter Try.func19, Try.ntmps19
  go_wp2
  repeat (go_quiet (fail); try go_wp2)
  go_loopg [5] k (fun kq v5 w' => ∃ (x5_1 : Int), v5 = .int .i64 x5_1 ∧ zC (yN.l0 kq l0 l1 x5_1 = some r) ∧ zC (kq ≤ k) ∧ Drawn0 w w')
  case atStart => exact ⟨(0), (by first | rfl | (simp; done) | (simp [*]; done)), H', ⟨Nat.le_refl _⟩, by repeat (first | exact Drawn0.refl _ | apply Drawn0.step)⟩
  case round =>
   clear H'
   try clear c1
   try clear p2
   try clear c3
   try clear c3b0
   try clear c3b1
   try clear c3b2
   obtain ⟨x5_1, rfl, HA, HK1, ⟨m1, rfl⟩⟩ := hrel
   cases gk with
   | zero => exact absurd HA.out (by simp [yN.l0])
   | succ k1 =>
    have H := HA.out
    clear HA
    simp only [yN.l0] at H
    by_cases c4 : x5_1 < (l0.length : Int)
    ·
     rw [if_pos c4] at H
     have c4b0 : decide (x5_1 < (l0.length : Int)) = true := decide_eq_true c4
     clear c4
     by_cases c5 : 0 ≤ x5_1
     ·
      rw [if_pos c5] at H
      have c5b0 : decide (0 ≤ x5_1) = true := decide_eq_true c5
      clear c5
      by_cases c6 : x5_1 < (l1.length : Int)
      ·
       rw [if_pos c6] at H
       have c6b0 : decide (x5_1 < (l1.length : Int)) = true := decide_eq_true c6
       clear c6
       by_cases c7 : (rd l0 x5_1) = (rd l1 x5_1)
       ·
        rw [if_pos c7] at H
        have c7b0 : ((rd l0 x5_1) == (rd l1 x5_1)) = true := beq_iff_eq.mpr c7
        have c7b1 : ((rd l0 x5_1) != (rd l1 x5_1)) = false := bne_eq_false_iff_eq.mpr c7
        clear c7
        have H' := zC.mk H
        clear H
        have p435 : 0 ≤ (x5_1 : Int) := of_decide_eq_true (by first | (with_reducible assumption) | assumption)
        have q435 : x5_1 < (l0.length : Int) := of_decide_eq_true (by first | (with_reducible assumption) | assumption)
        obtain ⟨ad435, e435, hx435_0⟩ := Kd.at_int HR0.out x5_1 p435 q435
        cases e435
        replace p435 := eq_true p435
        replace q435 := eq_true q435
        have p436 : 0 ≤ (x5_1 : Int) := of_decide_eq_true (by first | (with_reducible assumption) | assumption)
        have q436 : x5_1 < (l1.length : Int) := of_decide_eq_true (by first | (with_reducible assumption) | assumption)
        obtain ⟨ad436, e436, hx436_0⟩ := Kd.at_int HR1.out x5_1 p436 q436
        cases e436
        replace p436 := eq_true p436
        replace q436 := eq_true q436
        go_wp2
        repeat (go_quiet (fail); try go_wp2)
        go_roundg k1
        case measure => have := HK1.out; omega
        case rel => exact ⟨(wrap64 (x5_1 + 1)), (by first | rfl | (simp; done) | (simp [*]; done)), H', ⟨by have := HK1.out; omega⟩, by repeat (first | exact Drawn0.refl _ | apply Drawn0.step)⟩
       ·
        rw [if_neg c7] at H
        have c7b0 : ((rd l0 x5_1) == (rd l1 x5_1)) = false := beq_eq_false_iff_ne.mpr c7
        have c7b1 : ((rd l0 x5_1) != (rd l1 x5_1)) = true := bne_iff_ne.mpr c7
        obtain rfl := Option.some.inj H
        have p435 : 0 ≤ (x5_1 : Int) := of_decide_eq_true (by first | (with_reducible assumption) | assumption)
        have q435 : x5_1 < (l0.length : Int) := of_decide_eq_true (by first | (with_reducible assumption) | assumption)
        obtain ⟨ad435, e435, hx435_0⟩ := Kd.at_int HR0.out x5_1 p435 q435
        cases e435
        replace p435 := eq_true p435
        replace q435 := eq_true q435
        have p436 : 0 ≤ (x5_1 : Int) := of_decide_eq_true (by first | (with_reducible assumption) | assumption)
        have q436 : x5_1 < (l1.length : Int) := of_decide_eq_true (by first | (with_reducible assumption) | assumption)
        obtain ⟨ad436, e436, hx436_0⟩ := Kd.at_int HR1.out x5_1 p436 q436
        cases e436
        replace p436 := eq_true p436
        replace q436 := eq_true q436
        go_wp2
        repeat (go_quiet (fail); try go_wp2)
        go_ret
        exact ⟨by first | rfl | (simp; done) | (simp [*]; done), by repeat (first | exact Drawn0.refl _ | apply Drawn0.step)⟩
      ·
       rw [if_neg c6] at H
       exact absurd H (by simp)
     ·
      rw [if_neg c5] at H
      exact absurd H (by simp)
    ·
     rw [if_neg c4] at H
     have c4b0 : decide (x5_1 < (l0.length : Int)) = false := decide_eq_false c4
     clear c4
     obtain rfl := Option.some.inj H
     go_wp2
     repeat (go_quiet (fail); try go_wp2)
     go_ret
     exact ⟨by first | rfl | (simp; done) | (simp [*]; done), by repeat (first | exact Drawn0.refl _ | apply Drawn0.step)⟩
 ·
  rw [if_neg c3] at H
  have c3b0 : ((l0.length : Int) == (l1.length : Int)) = false := beq_eq_false_iff_ne.mpr c3
  have c3b1 : ((l0.length : Int) != (l1.length : Int)) = true := bne_iff_ne.mpr c3
  have c3b2 : (l0.length == l1.length) = false := by first | simpa using c3 | (simp at c3 ⊢; omega)
  obtain rfl := Option.some.inj H
  go_enter Try.func19, Try.ntmps19
  go_wp2
  repeat (go_quiet (fail); try go_wp2)
  go_ret
  exact ⟨by first | rfl | (simp; done) | (simp [*]; done), by repeat (first | exact Drawn0.refl _ | apply Drawn0.step)⟩
theorem wF.calls (a0_0 : Int) (a0_1 : Int) (a0_2 : Int) (a1_0 : Int) (a1_1 : Int) (a1_2 : Int) (r : Bool) (w : World) (h : wF.f a0_0 a0_1 a0_2 a1_0 a1_1 a1_2 = some r) :
  Calls Try.prog 51 #[.agg #[.int .i64 a0_0, .int .i64 a0_1, .int .i64 a0_2], .agg #[.int .i64 a1_0, .int .i64 a1_1, .int .i64 a1_2]] w fun e w' => e = .returned (.bool r) ∧ Below w.heap.size w w' := by
 have hu30 := Try.underlying30
 have HB := zC.mk (Below.refl w.heap.size w)
 have H : (if a0_0 = a1_0 then (if a0_1 = a1_1 then (if a0_2 = a1_2 then (some true) else (some false)) else (some false)) else (some false)) = some r := h
 clear h
 by_cases c3 : a0_0 = a1_0
 ·
  rw [if_pos c3] at H
  have c3b0 : (a0_0 == a1_0) = true := beq_iff_eq.mpr c3
  have c3b1 : (a0_0 != a1_0) = false := bne_eq_false_iff_eq.mpr c3
  clear c3
  by_cases c4 : a0_1 = a1_1
  ·
   rw [if_pos c4] at H
   have c4b0 : (a0_1 == a1_1) = true := beq_iff_eq.mpr c4
   have c4b1 : (a0_1 != a1_1) = false := bne_eq_false_iff_eq.mpr c4
   clear c4
   by_cases c5 : a0_2 = a1_2
   ·
    rw [if_pos c5] at H
    have c5b0 : (a0_2 == a1_2) = true := beq_iff_eq.mpr c5
    have c5b1 : (a0_2 != a1_2) = false := bne_eq_false_iff_eq.mpr c5
    clear c5
    obtain rfl := Option.some.inj H
    go_enter Try.func51, Try.ntmps51
    go_wp2_with (first | ((with_reducible refine zQ (N := 2) rfl ?_); refine zO ?hg (N := 2) ?hd (cs := #[.int .i64 a0_0, .int .i64 a0_1, .int .i64 a0_2]) (t := 30) ?hr ?_; (case hd => rfl); (case hg => rfl); (case hr => first | (go_simp; done) | (go_simp; rfl)); intro gb437 hg w6 hbox hb; have n0_ := zC.mk (zL (by repeat (first | (with_reducible first | exact HB.out | apply zG | apply zA | apply zF) | exact HB.out)) hb); have n1_ := zC.mk (hbox); have n2_ := zC.mk ((by rw [hg]; exact (zM (by repeat (first | (with_reducible first | exact HB.out | apply zG | apply zA | apply zF) | exact HB.out))) : w.heap.size ≤ gb437)); have n3_ := n2_; clear HB; have HB := n0_; have BK437 := n1_; have GW437 := n2_; have GE437 := n3_; clear n0_ n1_ n2_ n3_; clear hb hbox hg) | ((with_reducible refine zQ (N := 3) rfl ?_); refine zO ?hg (N := 3) ?hd (cs := #[.int .i64 a1_0, .int .i64 a1_1, .int .i64 a1_2]) (t := 30) ?hr ?_; (case hd => rfl); (case hg => rfl); (case hr => first | (go_simp; done) | (go_simp; rfl)); intro gb438 hg w7 hbox hb; have n0_ := zC.mk (zK (g := gb437) (o := .cells #[.int .i64 a0_0, .int .i64 a0_1, .int .i64 a0_2] 30 (0, 0)) (by (with_reducible repeat (first | refine zE ?_ _ | refine zI ?_ | refine zD ?_ _)); exact BK437.out) hb); have n1_ := zC.mk (zL (by repeat (first | (with_reducible first | exact HB.out | apply zG | apply zA | apply zF | refine zH ?_ GE437.out) | exact HB.out)) hb); have n2_ := zC.mk (hbox); have n3_ := zC.mk ((by rw [hg]; exact (zM (by repeat (first | (with_reducible first | exact HB.out | apply zG | apply zA | apply zF | refine zH ?_ GE437.out) | exact HB.out))) : w.heap.size ≤ gb438)); have n4_ := n3_; have n5_ := zC.mk ((by rw [hg]; exact Nat.ne_of_lt (zV (by (with_reducible repeat (first | refine zE ?_ _ | refine zI ?_ | refine zD ?_ _)); exact BK437.out)) : gb437 ≠ gb438)); have n6_ := zC.mk n5_.out.symm; clear BK437; clear HB; have BK437 := n0_; have HB := n1_; have BK438 := n2_; have GW438 := n3_; have GE438 := n4_; have NB437_438 := n5_; have NB438_437 := n6_; clear n0_ n1_ n2_ n3_ n4_ n5_ n6_; clear hb hbox hg; have hnb8 := NB437_438.out; have hnc8 := NB438_437.out; have hcz9_0 : w7.cell? ⟨gb437, 0, none⟩ = some (.int .i64 a0_0) := zB BK437.out 0; have hcz9_1 : w7.cell? ⟨gb437, 1, none⟩ = some (.int .i64 a0_1) := zB BK437.out 1; have hcz9_2 : w7.cell? ⟨gb437, 2, none⟩ = some (.int .i64 a0_2) := zB BK437.out 2; have hcz10_0 : w7.cell? ⟨gb438, 0, none⟩ = some (.int .i64 a1_0) := zB BK438.out 0; have hcz10_1 : w7.cell? ⟨gb438, 1, none⟩ = some (.int .i64 a1_1) := zB BK438.out 1; have hcz10_2 : w7.cell? ⟨gb438, 2, none⟩ = some (.int .i64 a1_2) := zB BK438.out 2))
    go_ret
    exact ⟨by first | rfl | (simp [*, errW_none, errW_some] <;> rfl), by repeat (first | (with_reducible first | exact HB.out | apply zG | apply zA | apply zF | refine zH ?_ GE437.out | refine zH ?_ GE438.out) | exact HB.out)⟩
   ·
    rw [if_neg c5] at H
    have c5b0 : (a0_2 == a1_2) = false := beq_eq_false_iff_ne.mpr c5
    have c5b1 : (a0_2 != a1_2) = true := bne_iff_ne.mpr c5
    obtain rfl := Option.some.inj H
    go_enter Try.func51, Try.ntmps51
    go_wp2_with (first | ((with_reducible refine zQ (N := 2) rfl ?_); refine zO ?hg (N := 2) ?hd (cs := #[.int .i64 a0_0, .int .i64 a0_1, .int .i64 a0_2]) (t := 30) ?hr ?_; (case hd => rfl); (case hg => rfl); (case hr => first | (go_simp; done) | (go_simp; rfl)); intro gb437 hg w11 hbox hb; have n0_ := zC.mk (zL (by repeat (first | (with_reducible first | exact HB.out | apply zG | apply zA | apply zF) | exact HB.out)) hb); have n1_ := zC.mk (hbox); have n2_ := zC.mk ((by rw [hg]; exact (zM (by repeat (first | (with_reducible first | exact HB.out | apply zG | apply zA | apply zF) | exact HB.out))) : w.heap.size ≤ gb437)); have n3_ := n2_; clear HB; have HB := n0_; have BK437 := n1_; have GW437 := n2_; have GE437 := n3_; clear n0_ n1_ n2_ n3_; clear hb hbox hg) | ((with_reducible refine zQ (N := 3) rfl ?_); refine zO ?hg (N := 3) ?hd (cs := #[.int .i64 a1_0, .int .i64 a1_1, .int .i64 a1_2]) (t := 30) ?hr ?_; (case hd => rfl); (case hg => rfl); (case hr => first | (go_simp; done) | (go_simp; rfl)); intro gb438 hg w12 hbox hb; have n0_ := zC.mk (zK (g := gb437) (o := .cells #[.int .i64 a0_0, .int .i64 a0_1, .int .i64 a0_2] 30 (0, 0)) (by (with_reducible repeat (first | refine zE ?_ _ | refine zI ?_ | refine zD ?_ _)); exact BK437.out) hb); have n1_ := zC.mk (zL (by repeat (first | (with_reducible first | exact HB.out | apply zG | apply zA | apply zF | refine zH ?_ GE437.out) | exact HB.out)) hb); have n2_ := zC.mk (hbox); have n3_ := zC.mk ((by rw [hg]; exact (zM (by repeat (first | (with_reducible first | exact HB.out | apply zG | apply zA | apply zF | refine zH ?_ GE437.out) | exact HB.out))) : w.heap.size ≤ gb438)); have n4_ := n3_; have n5_ := zC.mk ((by rw [hg]; exact Nat.ne_of_lt (zV (by (with_reducible repeat (first | refine zE ?_ _ | refine zI ?_ | refine zD ?_ _)); exact BK437.out)) : gb437 ≠ gb438)); have n6_ := zC.mk n5_.out.symm; clear BK437; clear HB; have BK437 := n0_; have HB := n1_; have BK438 := n2_; have GW438 := n3_; have GE438 := n4_; have NB437_438 := n5_; have NB438_437 := n6_; clear n0_ n1_ n2_ n3_ n4_ n5_ n6_; clear hb hbox hg; have hnb13 := NB437_438.out; have hnc13 := NB438_437.out; have hcz14_0 : w12.cell? ⟨gb437, 0, none⟩ = some (.int .i64 a0_0) := zB BK437.out 0; have hcz14_1 : w12.cell? ⟨gb437, 1, none⟩ = some (.int .i64 a0_1) := zB BK437.out 1; have hcz14_2 : w12.cell? ⟨gb437, 2, none⟩ = some (.int .i64 a0_2) := zB BK437.out 2; have hcz15_0 : w12.cell? ⟨gb438, 0, none⟩ = some (.int .i64 a1_0) := zB BK438.out 0; have hcz15_1 : w12.cell? ⟨gb438, 1, none⟩ = some (.int .i64 a1_1) := zB BK438.out 1; have hcz15_2 : w12.cell? ⟨gb438, 2, none⟩ = some (.int .i64 a1_2) := zB BK438.out 2))
    go_ret
    exact ⟨by first | rfl | (simp [*, errW_none, errW_some] <;> rfl), by repeat (first | (with_reducible first | exact HB.out | apply zG | apply zA | apply zF | refine zH ?_ GE437.out | refine zH ?_ GE438.out) | exact HB.out)⟩
  ·
   rw [if_neg c4] at H
   have c4b0 : (a0_1 == a1_1) = false := beq_eq_false_iff_ne.mpr c4
   have c4b1 : (a0_1 != a1_1) = true := bne_iff_ne.mpr c4
   obtain rfl := Option.some.inj H
   go_enter Try.func51, Try.ntmps51
   go_wp2_with (first | ((with_reducible refine zQ (N := 2) rfl ?_); refine zO ?hg (N := 2) ?hd (cs := #[.int .i64 a0_0, .int .i64 a0_1, .int .i64 a0_2]) (t := 30) ?hr ?_; (case hd => rfl); (case hg => rfl); (case hr => first | (go_simp; done) | (go_simp; rfl)); intro gb437 hg w16 hbox hb; have n0_ := zC.mk (zL (by repeat (first | (with_reducible first | exact HB.out | apply zG | apply zA | apply zF) | exact HB.out)) hb); have n1_ := zC.mk (hbox); have n2_ := zC.mk ((by rw [hg]; exact (zM (by repeat (first | (with_reducible first | exact HB.out | apply zG | apply zA | apply zF) | exact HB.out))) : w.heap.size ≤ gb437)); have n3_ := n2_; clear HB; have HB := n0_; have BK437 := n1_; have GW437 := n2_; have GE437 := n3_; clear n0_ n1_ n2_ n3_; clear hb hbox hg) | ((with_reducible refine zQ (N := 3) rfl ?_); refine zO ?hg (N := 3) ?hd (cs := #[.int .i64 a1_0, .int .i64 a1_1, .int .i64 a1_2]) (t := 30) ?hr ?_; (case hd => rfl); (case hg => rfl); (case hr => first | (go_simp; done) | (go_simp; rfl)); intro gb438 hg w17 hbox hb; have n0_ := zC.mk (zK (g := gb437) (o := .cells #[.int .i64 a0_0, .int .i64 a0_1, .int .i64 a0_2] 30 (0, 0)) (by (with_reducible repeat (first | refine zE ?_ _ | refine zI ?_ | refine zD ?_ _)); exact BK437.out) hb); have n1_ := zC.mk (zL (by repeat (first | (with_reducible first | exact HB.out | apply zG | apply zA | apply zF | refine zH ?_ GE437.out) | exact HB.out)) hb); have n2_ := zC.mk (hbox); have n3_ := zC.mk ((by rw [hg]; exact (zM (by repeat (first | (with_reducible first | exact HB.out | apply zG | apply zA | apply zF | refine zH ?_ GE437.out) | exact HB.out))) : w.heap.size ≤ gb438)); have n4_ := n3_; have n5_ := zC.mk ((by rw [hg]; exact Nat.ne_of_lt (zV (by (with_reducible repeat (first | refine zE ?_ _ | refine zI ?_ | refine zD ?_ _)); exact BK437.out)) : gb437 ≠ gb438)); have n6_ := zC.mk n5_.out.symm; clear BK437; clear HB; have BK437 := n0_; have HB := n1_; have BK438 := n2_; have GW438 := n3_; have GE438 := n4_; have NB437_438 := n5_; have NB438_437 := n6_; clear n0_ n1_ n2_ n3_ n4_ n5_ n6_; clear hb hbox hg; have hnb18 := NB437_438.out; have hnc18 := NB438_437.out; have hcz19_0 : w17.cell? ⟨gb437, 0, none⟩ = some (.int .i64 a0_0) := zB BK437.out 0; have hcz19_1 : w17.cell? ⟨gb437, 1, none⟩ = some (.int .i64 a0_1) := zB BK437.out 1; have hcz19_2 : w17.cell? ⟨gb437, 2, none⟩ = some (.int .i64 a0_2) := zB BK437.out 2; have hcz20_0 : w17.cell? ⟨gb438, 0, none⟩ = some (.int .i64 a1_0) := zB BK438.out 0; have hcz20_1 : w17.cell? ⟨gb438, 1, none⟩ = some (.int .i64 a1_1) := zB BK438.out 1; have hcz20_2 : w17.cell? ⟨gb438, 2, none⟩ = some (.int .i64 a1_2) := zB BK438.out 2))
   go_ret
   exact ⟨by first | rfl | (simp [*, errW_none, errW_some] <;> rfl), by repeat (first | (with_reducible first | exact HB.out | apply zG | apply zA | apply zF | refine zH ?_ GE437.out | refine zH ?_ GE438.out) | exact HB.out)⟩
 ·
  rw [if_neg c3] at H
  have c3b0 : (a0_0 == a1_0) = false := beq_eq_false_iff_ne.mpr c3
  have c3b1 : (a0_0 != a1_0) = true := bne_iff_ne.mpr c3
  obtain rfl := Option.some.inj H
  go_enter Try.func51, Try.ntmps51
  go_wp2_with (first | ((with_reducible refine zQ (N := 2) rfl ?_); refine zO ?hg (N := 2) ?hd (cs := #[.int .i64 a0_0, .int .i64 a0_1, .int .i64 a0_2]) (t := 30) ?hr ?_; (case hd => rfl); (case hg => rfl); (case hr => first | (go_simp; done) | (go_simp; rfl)); intro gb437 hg w21 hbox hb; have n0_ := zC.mk (zL (by repeat (first | (with_reducible first | exact HB.out | apply zG | apply zA | apply zF) | exact HB.out)) hb); have n1_ := zC.mk (hbox); have n2_ := zC.mk ((by rw [hg]; exact (zM (by repeat (first | (with_reducible first | exact HB.out | apply zG | apply zA | apply zF) | exact HB.out))) : w.heap.size ≤ gb437)); have n3_ := n2_; clear HB; have HB := n0_; have BK437 := n1_; have GW437 := n2_; have GE437 := n3_; clear n0_ n1_ n2_ n3_; clear hb hbox hg) | ((with_reducible refine zQ (N := 3) rfl ?_); refine zO ?hg (N := 3) ?hd (cs := #[.int .i64 a1_0, .int .i64 a1_1, .int .i64 a1_2]) (t := 30) ?hr ?_; (case hd => rfl); (case hg => rfl); (case hr => first | (go_simp; done) | (go_simp; rfl)); intro gb438 hg w22 hbox hb; have n0_ := zC.mk (zK (g := gb437) (o := .cells #[.int .i64 a0_0, .int .i64 a0_1, .int .i64 a0_2] 30 (0, 0)) (by (with_reducible repeat (first | refine zE ?_ _ | refine zI ?_ | refine zD ?_ _)); exact BK437.out) hb); have n1_ := zC.mk (zL (by repeat (first | (with_reducible first | exact HB.out | apply zG | apply zA | apply zF | refine zH ?_ GE437.out) | exact HB.out)) hb); have n2_ := zC.mk (hbox); have n3_ := zC.mk ((by rw [hg]; exact (zM (by repeat (first | (with_reducible first | exact HB.out | apply zG | apply zA | apply zF | refine zH ?_ GE437.out) | exact HB.out))) : w.heap.size ≤ gb438)); have n4_ := n3_; have n5_ := zC.mk ((by rw [hg]; exact Nat.ne_of_lt (zV (by (with_reducible repeat (first | refine zE ?_ _ | refine zI ?_ | refine zD ?_ _)); exact BK437.out)) : gb437 ≠ gb438)); have n6_ := zC.mk n5_.out.symm; clear BK437; clear HB; have BK437 := n0_; have HB := n1_; have BK438 := n2_; have GW438 := n3_; have GE438 := n4_; have NB437_438 := n5_; have NB438_437 := n6_; clear n0_ n1_ n2_ n3_ n4_ n5_ n6_; clear hb hbox hg; have hnb23 := NB437_438.out; have hnc23 := NB438_437.out; have hcz24_0 : w22.cell? ⟨gb437, 0, none⟩ = some (.int .i64 a0_0) := zB BK437.out 0; have hcz24_1 : w22.cell? ⟨gb437, 1, none⟩ = some (.int .i64 a0_1) := zB BK437.out 1; have hcz24_2 : w22.cell? ⟨gb437, 2, none⟩ = some (.int .i64 a0_2) := zB BK437.out 2; have hcz25_0 : w22.cell? ⟨gb438, 0, none⟩ = some (.int .i64 a1_0) := zB BK438.out 0; have hcz25_1 : w22.cell? ⟨gb438, 1, none⟩ = some (.int .i64 a1_1) := zB BK438.out 1; have hcz25_2 : w22.cell? ⟨gb438, 2, none⟩ = some (.int .i64 a1_2) := zB BK438.out 2))
  go_ret
  exact ⟨by first | rfl | (simp [*, errW_none, errW_some] <;> rfl), by repeat (first | (with_reducible first | exact HB.out | apply zG | apply zA | apply zF | refine zH ?_ GE437.out | refine zH ?_ GE438.out) | exact HB.out)⟩
theorem xJ.calls (k : Nat) (a0_0 : Int) (a0_1 : Int) (a0_2 : Int) (a0_3 : Int) (A0_4 : Option Addr) (c0_4 : Nat) (l0_4 : List Int) (a1_0 : Int) (a1_1 : Int) (a1_2 : Int) (a1_3 : Int) (A1_4 : Option Addr) (c1_4 : Nat) (l1_4 : List Int) (r : Bool) (w : World) (hr0_4 : Kd.C (Kd.int .i64) w A0_4 l0_4.length l0_4) (hc0_4 : l0_4.length ≤ c0_4) (hr1_4 : Kd.C (Kd.int .i64) w A1_4 l1_4.length l1_4) (hc1_4 : l1_4.length ≤ c1_4) (h : xJ.f k a0_0 a0_1 a0_2 a0_3 l0_4 a1_0 a1_1 a1_2 a1_3 l1_4 = some r) :
  Calls Try.prog 16 #[.agg #[.int .i64 a0_0, .int .i64 a0_1, .int .i64 a0_2, .int .i64 a0_3, .slice A0_4 l0_4.length c0_4], .agg #[.int .i64 a1_0, .int .i64 a1_1, .int .i64 a1_2, .int .i64 a1_3, .slice A1_4 l1_4.length c1_4]] w fun e w' => e = .returned (.bool r) ∧ Below w.heap.size w w' := by
 have hu32 := Try.underlying32
 have hu30 := Try.underlying30
 have HR0_4 := zC.mk hr0_4
 have HC0_4 := zC.mk hc0_4
 clear hr0_4 hc0_4
 have HR1_4 := zC.mk hr1_4
 have HC1_4 := zC.mk hc1_4
 clear hr1_4 hc1_4
 have HB := zC.mk (Below.refl w.heap.size w)
 have H : (if a0_0 = a1_0 then ((wF.f a0_1 a0_2 a0_3 a1_1 a1_2 a1_3).bind fun t441 => (if t441 = true then ((yN.f k l0_4 l1_4).bind fun t442 => (if t442 = true then (some true) else (some false))) else (some false))) else (some false)) = some r := h
 clear h
 by_cases c3 : a0_0 = a1_0
 ·
  rw [if_pos c3] at H
  have c3b0 : (a0_0 == a1_0) = true := beq_iff_eq.mpr c3
  have c3b1 : (a0_0 != a1_0) = false := bne_eq_false_iff_eq.mpr c3
  clear c3
  replace H := Option.bind_eq_some_iff.mp H
  obtain ⟨t441, A40, H⟩ := H
  replace H : (if t441 = true then ((yN.f k l0_4 l1_4).bind fun t442 => (if t442 = true then (some true) else (some false))) else (some false)) = some r := H
  have A4 := zC.mk A40
  clear A40
  by_cases c5 : t441 = true
  ·
   subst c5
   have H1 : ((yN.f k l0_4 l1_4).bind fun t442 => (if t442 = true then (some true) else (some false))) = some r := by rw [if_pos rfl] at H; exact H
   clear H
   have H := H1
   clear H1
   replace H := Option.bind_eq_some_iff.mp H
   obtain ⟨t442, A60, H⟩ := H
   replace H : (if t442 = true then (some true) else (some false)) = some r := H
   have A6 := zC.mk A60
   clear A60
   by_cases c7 : t442 = true
   ·
    subst c7
    have H1 : (some true) = some r := by rw [if_pos rfl] at H; exact H
    clear H
    have H := H1
    clear H1
    obtain rfl := Option.some.inj H
    go_enter Try.func16, Try.ntmps16
    go_wp2_with (first | ((with_reducible refine zQ (N := 2) rfl ?_); refine zO ?hg (N := 2) ?hd (cs := #[.int .i64 a0_0, .int .i64 a0_1, .int .i64 a0_2, .int .i64 a0_3, .slice A0_4 l0_4.length c0_4]) (t := 32) ?hr ?_; (case hd => rfl); (case hg => rfl); (case hr => first | (go_simp; done) | (go_simp; rfl)); intro gb439 hg w8 hbox hb; have n0_ := zC.mk (zL (by repeat (first | (with_reducible first | exact HB.out | apply zG | apply zA | apply zF) | exact HB.out)) hb); have n1_ := zC.mk (hbox); have n2_ := zC.mk ((by rw [hg]; exact (zM (by repeat (first | (with_reducible first | exact HB.out | apply zG | apply zA | apply zF) | exact HB.out))) : w.heap.size ≤ gb439)); have n3_ := n2_; clear HB; have HB := n0_; have BK439 := n1_; have GW439 := n2_; have GE439 := n3_; clear n0_ n1_ n2_ n3_; clear hb hbox hg) | ((with_reducible refine zQ (N := 3) rfl ?_); refine zO ?hg (N := 3) ?hd (cs := #[.int .i64 a1_0, .int .i64 a1_1, .int .i64 a1_2, .int .i64 a1_3, .slice A1_4 l1_4.length c1_4]) (t := 32) ?hr ?_; (case hd => rfl); (case hg => rfl); (case hr => first | (go_simp; done) | (go_simp; rfl)); intro gb440 hg w9 hbox hb; have n0_ := zC.mk (zK (g := gb439) (o := .cells #[.int .i64 a0_0, .int .i64 a0_1, .int .i64 a0_2, .int .i64 a0_3, .slice A0_4 l0_4.length c0_4] 32 (0, 0)) (by (with_reducible repeat (first | refine zE ?_ _ | refine zI ?_ | refine zD ?_ _)); exact BK439.out) hb); have n1_ := zC.mk (zL (by repeat (first | (with_reducible first | exact HB.out | apply zG | apply zA | apply zF | refine zH ?_ GE439.out) | exact HB.out)) hb); have n2_ := zC.mk (hbox); have n3_ := zC.mk ((by rw [hg]; exact (zM (by repeat (first | (with_reducible first | exact HB.out | apply zG | apply zA | apply zF | refine zH ?_ GE439.out) | exact HB.out))) : w.heap.size ≤ gb440)); have n4_ := n3_; have n5_ := zC.mk ((by rw [hg]; exact Nat.ne_of_lt (zV (by (with_reducible repeat (first | refine zE ?_ _ | refine zI ?_ | refine zD ?_ _)); exact BK439.out)) : gb439 ≠ gb440)); have n6_ := zC.mk n5_.out.symm; clear BK439; clear HB; have BK439 := n0_; have HB := n1_; have BK440 := n2_; have GW440 := n3_; have GE440 := n4_; have NB439_440 := n5_; have NB440_439 := n6_; clear n0_ n1_ n2_ n3_ n4_ n5_ n6_; clear hb hbox hg; have hnb10 := NB439_440.out; have hnc10 := NB440_439.out; have hcz11_0 : w9.cell? ⟨gb439, 0, none⟩ = some (.int .i64 a0_0) := zB BK439.out 0; have hcz11_1 : w9.cell? ⟨gb439, 1, none⟩ = some (.int .i64 a0_1) := zB BK439.out 1; have hcz11_2 : w9.cell? ⟨gb439, 2, none⟩ = some (.int .i64 a0_2) := zB BK439.out 2; have hcz11_3 : w9.cell? ⟨gb439, 3, none⟩ = some (.int .i64 a0_3) := zB BK439.out 3; have hcz11_4 : w9.cell? ⟨gb439, 4, none⟩ = some (.slice A0_4 l0_4.length c0_4) := zB BK439.out 4; have hcz12_0 : w9.cell? ⟨gb440, 0, none⟩ = some (.int .i64 a1_0) := zB BK440.out 0; have hcz12_1 : w9.cell? ⟨gb440, 1, none⟩ = some (.int .i64 a1_1) := zB BK440.out 1; have hcz12_2 : w9.cell? ⟨gb440, 2, none⟩ = some (.int .i64 a1_2) := zB BK440.out 2; have hcz12_3 : w9.cell? ⟨gb440, 3, none⟩ = some (.int .i64 a1_3) := zB BK440.out 3; have hcz12_4 : w9.cell? ⟨gb440, 4, none⟩ = some (.slice A1_4 l1_4.length c1_4) := zB BK440.out 4) | ((with_reducible refine zP (f := 51) rfl ?_); refine zX (some 14) rfl rfl Try.func51 (by kernel_rfl) rfl #[.agg #[.int .i64 a0_1, .int .i64 a0_2, .int .i64 a0_3], .agg #[.int .i64 a1_1, .int .i64 a1_2, .int .i64 a1_3]] rfl (by (try simp only [List.map_toArray, List.map_cons, List.map_nil]); first | done | rfl) ?_; (with_reducible refine (wF.calls a0_1 a0_2 a0_3 a1_1 a1_2 a1_3 true _ A4.out).mono ?_); rintro e w13 ⟨rfl, hb⟩; refine ⟨_, rfl, ?_⟩; have n0_ := zC.mk (zK (g := gb439) (o := .cells #[.int .i64 a0_0, .int .i64 a0_1, .int .i64 a0_2, .int .i64 a0_3, .slice A0_4 l0_4.length c0_4] 32 (0, 0)) (by (with_reducible repeat (first | refine zE ?_ _ | refine zI ?_ | refine zD ?_ _)); exact BK439.out) hb); have n1_ := zC.mk (zK (g := gb440) (o := .cells #[.int .i64 a1_0, .int .i64 a1_1, .int .i64 a1_2, .int .i64 a1_3, .slice A1_4 l1_4.length c1_4] 32 (0, 0)) (by (with_reducible repeat (first | refine zE ?_ _ | refine zI ?_ | refine zD ?_ _)); exact BK440.out) hb); have n2_ := zC.mk (zL (by repeat (first | (with_reducible first | exact HB.out | apply zG | apply zA | apply zF | refine zH ?_ GE439.out | refine zH ?_ GE440.out) | exact HB.out)) hb); clear BK439; clear BK440; clear HB; have BK439 := n0_; have BK440 := n1_; have HB := n2_; clear n0_ n1_ n2_; (try clear hb); have hcz14_0 : w13.cell? ⟨gb439, 0, none⟩ = some (.int .i64 a0_0) := zB BK439.out 0; have hcz14_1 : w13.cell? ⟨gb439, 1, none⟩ = some (.int .i64 a0_1) := zB BK439.out 1; have hcz14_2 : w13.cell? ⟨gb439, 2, none⟩ = some (.int .i64 a0_2) := zB BK439.out 2; have hcz14_3 : w13.cell? ⟨gb439, 3, none⟩ = some (.int .i64 a0_3) := zB BK439.out 3; have hcz14_4 : w13.cell? ⟨gb439, 4, none⟩ = some (.slice A0_4 l0_4.length c0_4) := zB BK439.out 4; have hcz15_0 : w13.cell? ⟨gb440, 0, none⟩ = some (.int .i64 a1_0) := zB BK440.out 0; have hcz15_1 : w13.cell? ⟨gb440, 1, none⟩ = some (.int .i64 a1_1) := zB BK440.out 1; have hcz15_2 : w13.cell? ⟨gb440, 2, none⟩ = some (.int .i64 a1_2) := zB BK440.out 2; have hcz15_3 : w13.cell? ⟨gb440, 3, none⟩ = some (.int .i64 a1_3) := zB BK440.out 3; have hcz15_4 : w13.cell? ⟨gb440, 4, none⟩ = some (.slice A1_4 l1_4.length c1_4) := zB BK440.out 4) | ((with_reducible refine zP (f := 19) rfl ?_); refine zX (some 20) rfl rfl Try.func19 (by kernel_rfl) rfl #[.slice A0_4 l0_4.length c0_4, .slice A1_4 l1_4.length c1_4] rfl (by (try simp only [List.map_toArray, List.map_cons, List.map_nil]); first | done | rfl) ?_; (with_reducible refine (yN.calls k _ _ l0_4 _ _ l1_4 true _ ?side1 ?side2 ?side3 ?side4 A6.out).mono ?_); (case side1 => repeat (first | exact (Kd.C_below HR0_4.out HB.out) | (with_reducible refine Kd.C_alloc ?_ _) | (with_reducible refine Kd.C_drewN ?_ _) | (with_reducible refine Kd.C_drew ?_))); (case side2 => exact HC0_4.out); (case side3 => repeat (first | exact (Kd.C_below HR1_4.out HB.out) | (with_reducible refine Kd.C_alloc ?_ _) | (with_reducible refine Kd.C_drewN ?_ _) | (with_reducible refine Kd.C_drew ?_))); (case side4 => exact HC1_4.out); rintro e w' ⟨rfl, ⟨nd, rfl⟩⟩; refine ⟨_, rfl, ?_⟩))
    go_ret
    exact ⟨by first | rfl | (simp [*, errW_none, errW_some] <;> rfl), by repeat (first | (with_reducible first | exact HB.out | apply zG | apply zA | apply zF | refine zH ?_ GE439.out | refine zH ?_ GE440.out) | exact HB.out)⟩
   ·
    replace c7 := Bool.eq_false_iff.mpr c7
    subst c7
    have H1 : (some false) = some r := by rw [if_neg (show ¬ (false = true) by decide)] at H; exact H
    clear H
    have H := H1
    clear H1
    obtain rfl := Option.some.inj H
    go_enter Try.func16, Try.ntmps16
    go_wp2_with (first | ((with_reducible refine zQ (N := 2) rfl ?_); refine zO ?hg (N := 2) ?hd (cs := #[.int .i64 a0_0, .int .i64 a0_1, .int .i64 a0_2, .int .i64 a0_3, .slice A0_4 l0_4.length c0_4]) (t := 32) ?hr ?_; (case hd => rfl); (case hg => rfl); (case hr => first | (go_simp; done) | (go_simp; rfl)); intro gb439 hg w16 hbox hb; have n0_ := zC.mk (zL (by repeat (first | (with_reducible first | exact HB.out | apply zG | apply zA | apply zF) | exact HB.out)) hb); have n1_ := zC.mk (hbox); have n2_ := zC.mk ((by rw [hg]; exact (zM (by repeat (first | (with_reducible first | exact HB.out | apply zG | apply zA | apply zF) | exact HB.out))) : w.heap.size ≤ gb439)); have n3_ := n2_; clear HB; have HB := n0_; have BK439 := n1_; have GW439 := n2_; have GE439 := n3_; clear n0_ n1_ n2_ n3_; clear hb hbox hg) | ((with_reducible refine zQ (N := 3) rfl ?_); refine zO ?hg (N := 3) ?hd (cs := #[.int .i64 a1_0, .int .i64 a1_1, .int .i64 a1_2, .int .i64 a1_3, .slice A1_4 l1_4.length c1_4]) (t := 32) ?hr ?_; (case hd => rfl); (case hg => rfl); (case hr => first | (go_simp; done) | (go_simp; rfl)); intro gb440 hg w17 hbox hb; have n0_ := zC.mk (zK (g := gb439) (o := .cells #[.int .i64 a0_0, .int .i64 a0_1, .int .i64 a0_2, .int .i64 a0_3, .slice A0_4 l0_4.length c0_4] 32 (0, 0)) (by (with_reducible repeat (first | refine zE ?_ _ | refine zI ?_ | refine zD ?_ _)); exact BK439.out) hb); have n1_ := zC.mk (zL (by repeat (first | (with_reducible first | exact HB.out | apply zG | apply zA | apply zF | refine zH ?_ GE439.out) | exact HB.out)) hb); have n2_ := zC.mk (hbox); have n3_ := zC.mk ((by rw [hg]; exact (zM (by repeat (first | (with_reducible first | exact HB.out | apply zG | apply zA | apply zF | refine zH ?_ GE439.out) | exact HB.out))) : w.heap.size ≤ gb440)); have n4_ := n3_; have n5_ := zC.mk ((by rw [hg]; exact Nat.ne_of_lt (zV (by (with_reducible repeat (first | refine zE ?_ _ | refine zI ?_ | refine zD ?_ _)); exact BK439.out)) : gb439 ≠ gb440)); have n6_ := zC.mk n5_.out.symm; clear BK439; clear HB; have BK439 := n0_; have HB := n1_; have BK440 := n2_; have GW440 := n3_; have GE440 := n4_; have NB439_440 := n5_; have NB440_439 := n6_; clear n0_ n1_ n2_ n3_ n4_ n5_ n6_; clear hb hbox hg; have hnb18 := NB439_440.out; have hnc18 := NB440_439.out; have hcz19_0 : w17.cell? ⟨gb439, 0, none⟩ = some (.int .i64 a0_0) := zB BK439.out 0; have hcz19_1 : w17.cell? ⟨gb439, 1, none⟩ = some (.int .i64 a0_1) := zB BK439.out 1; have hcz19_2 : w17.cell? ⟨gb439, 2, none⟩ = some (.int .i64 a0_2) := zB BK439.out 2; have hcz19_3 : w17.cell? ⟨gb439, 3, none⟩ = some (.int .i64 a0_3) := zB BK439.out 3; have hcz19_4 : w17.cell? ⟨gb439, 4, none⟩ = some (.slice A0_4 l0_4.length c0_4) := zB BK439.out 4; have hcz20_0 : w17.cell? ⟨gb440, 0, none⟩ = some (.int .i64 a1_0) := zB BK440.out 0; have hcz20_1 : w17.cell? ⟨gb440, 1, none⟩ = some (.int .i64 a1_1) := zB BK440.out 1; have hcz20_2 : w17.cell? ⟨gb440, 2, none⟩ = some (.int .i64 a1_2) := zB BK440.out 2; have hcz20_3 : w17.cell? ⟨gb440, 3, none⟩ = some (.int .i64 a1_3) := zB BK440.out 3; have hcz20_4 : w17.cell? ⟨gb440, 4, none⟩ = some (.slice A1_4 l1_4.length c1_4) := zB BK440.out 4) | ((with_reducible refine zP (f := 51) rfl ?_); refine zX (some 14) rfl rfl Try.func51 (by kernel_rfl) rfl #[.agg #[.int .i64 a0_1, .int .i64 a0_2, .int .i64 a0_3], .agg #[.int .i64 a1_1, .int .i64 a1_2, .int .i64 a1_3]] rfl (by (try simp only [List.map_toArray, List.map_cons, List.map_nil]); first | done | rfl) ?_; (with_reducible refine (wF.calls a0_1 a0_2 a0_3 a1_1 a1_2 a1_3 true _ A4.out).mono ?_); rintro e w21 ⟨rfl, hb⟩; refine ⟨_, rfl, ?_⟩; have n0_ := zC.mk (zK (g := gb439) (o := .cells #[.int .i64 a0_0, .int .i64 a0_1, .int .i64 a0_2, .int .i64 a0_3, .slice A0_4 l0_4.length c0_4] 32 (0, 0)) (by (with_reducible repeat (first | refine zE ?_ _ | refine zI ?_ | refine zD ?_ _)); exact BK439.out) hb); have n1_ := zC.mk (zK (g := gb440) (o := .cells #[.int .i64 a1_0, .int .i64 a1_1, .int .i64 a1_2, .int .i64 a1_3, .slice A1_4 l1_4.length c1_4] 32 (0, 0)) (by (with_reducible repeat (first | refine zE ?_ _ | refine zI ?_ | refine zD ?_ _)); exact BK440.out) hb); have n2_ := zC.mk (zL (by repeat (first | (with_reducible first | exact HB.out | apply zG | apply zA | apply zF | refine zH ?_ GE439.out | refine zH ?_ GE440.out) | exact HB.out)) hb); clear BK439; clear BK440; clear HB; have BK439 := n0_; have BK440 := n1_; have HB := n2_; clear n0_ n1_ n2_; (try clear hb); have hcz22_0 : w21.cell? ⟨gb439, 0, none⟩ = some (.int .i64 a0_0) := zB BK439.out 0; have hcz22_1 : w21.cell? ⟨gb439, 1, none⟩ = some (.int .i64 a0_1) := zB BK439.out 1; have hcz22_2 : w21.cell? ⟨gb439, 2, none⟩ = some (.int .i64 a0_2) := zB BK439.out 2; have hcz22_3 : w21.cell? ⟨gb439, 3, none⟩ = some (.int .i64 a0_3) := zB BK439.out 3; have hcz22_4 : w21.cell? ⟨gb439, 4, none⟩ = some (.slice A0_4 l0_4.length c0_4) := zB BK439.out 4; have hcz23_0 : w21.cell? ⟨gb440, 0, none⟩ = some (.int .i64 a1_0) := zB BK440.out 0; have hcz23_1 : w21.cell? ⟨gb440, 1, none⟩ = some (.int .i64 a1_1) := zB BK440.out 1; have hcz23_2 : w21.cell? ⟨gb440, 2, none⟩ = some (.int .i64 a1_2) := zB BK440.out 2; have hcz23_3 : w21.cell? ⟨gb440, 3, none⟩ = some (.int .i64 a1_3) := zB BK440.out 3; have hcz23_4 : w21.cell? ⟨gb440, 4, none⟩ = some (.slice A1_4 l1_4.length c1_4) := zB BK440.out 4) | ((with_reducible refine zP (f := 19) rfl ?_); refine zX (some 20) rfl rfl Try.func19 (by kernel_rfl) rfl #[.slice A0_4 l0_4.length c0_4, .slice A1_4 l1_4.length c1_4] rfl (by (try simp only [List.map_toArray, List.map_cons, List.map_nil]); first | done | rfl) ?_; (with_reducible refine (yN.calls k _ _ l0_4 _ _ l1_4 false _ ?side1 ?side2 ?side3 ?side4 A6.out).mono ?_); (case side1 => repeat (first | exact (Kd.C_below HR0_4.out HB.out) | (with_reducible refine Kd.C_alloc ?_ _) | (with_reducible refine Kd.C_drewN ?_ _) | (with_reducible refine Kd.C_drew ?_))); (case side2 => exact HC0_4.out); (case side3 => repeat (first | exact (Kd.C_below HR1_4.out HB.out) | (with_reducible refine Kd.C_alloc ?_ _) | (with_reducible refine Kd.C_drewN ?_ _) | (with_reducible refine Kd.C_drew ?_))); (case side4 => exact HC1_4.out); rintro e w' ⟨rfl, ⟨nd, rfl⟩⟩; refine ⟨_, rfl, ?_⟩))
    go_ret
    exact ⟨by first | rfl | (simp [*, errW_none, errW_some] <;> rfl), by repeat (first | (with_reducible first | exact HB.out | apply zG | apply zA | apply zF | refine zH ?_ GE439.out | refine zH ?_ GE440.out) | exact HB.out)⟩
  ·
   replace c5 := Bool.eq_false_iff.mpr c5
   subst c5
   have H1 : (some false) = some r := by rw [if_neg (show ¬ (false = true) by decide)] at H; exact H
   clear H
   have H := H1
   clear H1
   obtain rfl := Option.some.inj H
   go_enter Try.func16, Try.ntmps16
   go_wp2_with (first | ((with_reducible refine zQ (N := 2) rfl ?_); refine zO ?hg (N := 2) ?hd (cs := #[.int .i64 a0_0, .int .i64 a0_1, .int .i64 a0_2, .int .i64 a0_3, .slice A0_4 l0_4.length c0_4]) (t := 32) ?hr ?_; (case hd => rfl); (case hg => rfl); (case hr => first | (go_simp; done) | (go_simp; rfl)); intro gb439 hg w24 hbox hb; have n0_ := zC.mk (zL (by repeat (first | (with_reducible first | exact HB.out | apply zG | apply zA | apply zF) | exact HB.out)) hb); have n1_ := zC.mk (hbox); have n2_ := zC.mk ((by rw [hg]; exact (zM (by repeat (first | (with_reducible first | exact HB.out | apply zG | apply zA | apply zF) | exact HB.out))) : w.heap.size ≤ gb439)); have n3_ := n2_; clear HB; have HB := n0_; have BK439 := n1_; have GW439 := n2_; have GE439 := n3_; clear n0_ n1_ n2_ n3_; clear hb hbox hg) | ((with_reducible refine zQ (N := 3) rfl ?_); refine zO ?hg (N := 3) ?hd (cs := #[.int .i64 a1_0, .int .i64 a1_1, .int .i64 a1_2, .int .i64 a1_3, .slice A1_4 l1_4.length c1_4]) (t := 32) ?hr ?_; (case hd => rfl); (case hg => rfl); (case hr => first | (go_simp; done) | (go_simp; rfl)); intro gb440 hg w25 hbox hb; have n0_ := zC.mk (zK (g := gb439) (o := .cells #[.int .i64 a0_0, .int .i64 a0_1, .int .i64 a0_2, .int .i64 a0_3, .slice A0_4 l0_4.length c0_4] 32 (0, 0)) (by (with_reducible repeat (first | refine zE ?_ _ | refine zI ?_ | refine zD ?_ _)); exact BK439.out) hb); have n1_ := zC.mk (zL (by repeat (first | (with_reducible first | exact HB.out | apply zG | apply zA | apply zF | refine zH ?_ GE439.out) | exact HB.out)) hb); have n2_ := zC.mk (hbox); have n3_ := zC.mk ((by rw [hg]; exact (zM (by repeat (first | (with_reducible first | exact HB.out | apply zG | apply zA | apply zF | refine zH ?_ GE439.out) | exact HB.out))) : w.heap.size ≤ gb440)); have n4_ := n3_; have n5_ := zC.mk ((by rw [hg]; exact Nat.ne_of_lt (zV (by (with_reducible repeat (first | refine zE ?_ _ | refine zI ?_ | refine zD ?_ _)); exact BK439.out)) : gb439 ≠ gb440)); have n6_ := zC.mk n5_.out.symm; clear BK439; clear HB; have BK439 := n0_; have HB := n1_; have BK440 := n2_; have GW440 := n3_; have GE440 := n4_; have NB439_440 := n5_; have NB440_439 := n6_; clear n0_ n1_ n2_ n3_ n4_ n5_ n6_; clear hb hbox hg; have hnb26 := NB439_440.out; have hnc26 := NB440_439.out; have hcz27_0 : w25.cell? ⟨gb439, 0, none⟩ = some (.int .i64 a0_0) := zB BK439.out 0; have hcz27_1 : w25.cell? ⟨gb439, 1, none⟩ = some (.int .i64 a0_1) := zB BK439.out 1; have hcz27_2 : w25.cell? ⟨gb439, 2, none⟩ = some (.int .i64 a0_2) := zB BK439.out 2; have hcz27_3 : w25.cell? ⟨gb439, 3, none⟩ = some (.int .i64 a0_3) := zB BK439.out 3; have hcz27_4 : w25.cell? ⟨gb439, 4, none⟩ = some (.slice A0_4 l0_4.length c0_4) := zB BK439.out 4; have hcz28_0 : w25.cell? ⟨gb440, 0, none⟩ = some (.int .i64 a1_0) := zB BK440.out 0; have hcz28_1 : w25.cell? ⟨gb440, 1, none⟩ = some (.int .i64 a1_1) := zB BK440.out 1; have hcz28_2 : w25.cell? ⟨gb440, 2, none⟩ = some (.int .i64 a1_2) := zB BK440.out 2; have hcz28_3 : w25.cell? ⟨gb440, 3, none⟩ = some (.int .i64 a1_3) := zB BK440.out 3; have hcz28_4 : w25.cell? ⟨gb440, 4, none⟩ = some (.slice A1_4 l1_4.length c1_4) := zB BK440.out 4) | ((with_reducible refine zP (f := 51) rfl ?_); refine zX (some 14) rfl rfl Try.func51 (by kernel_rfl) rfl #[.agg #[.int .i64 a0_1, .int .i64 a0_2, .int .i64 a0_3], .agg #[.int .i64 a1_1, .int .i64 a1_2, .int .i64 a1_3]] rfl (by (try simp only [List.map_toArray, List.map_cons, List.map_nil]); first | done | rfl) ?_; (with_reducible refine (wF.calls a0_1 a0_2 a0_3 a1_1 a1_2 a1_3 false _ A4.out).mono ?_); rintro e w29 ⟨rfl, hb⟩; refine ⟨_, rfl, ?_⟩; have n0_ := zC.mk (zK (g := gb439) (o := .cells #[.int .i64 a0_0, .int .i64 a0_1, .int .i64 a0_2, .int .i64 a0_3, .slice A0_4 l0_4.length c0_4] 32 (0, 0)) (by (with_reducible repeat (first | refine zE ?_ _ | refine zI ?_ | refine zD ?_ _)); exact BK439.out) hb); have n1_ := zC.mk (zK (g := gb440) (o := .cells #[.int .i64 a1_0, .int .i64 a1_1, .int .i64 a1_2, .int .i64 a1_3, .slice A1_4 l1_4.length c1_4] 32 (0, 0)) (by (with_reducible repeat (first | refine zE ?_ _ | refine zI ?_ | refine zD ?_ _)); exact BK440.out) hb); have n2_ := zC.mk (zL (by repeat (first | (with_reducible first | exact HB.out | apply zG | apply zA | apply zF | refine zH ?_ GE439.out | refine zH ?_ GE440.out) | exact HB.out)) hb); clear BK439; clear BK440; clear HB; have BK439 := n0_; have BK440 := n1_; have HB := n2_; clear n0_ n1_ n2_; (try clear hb)))
   go_ret
   exact ⟨by first | rfl | (simp [*, errW_none, errW_some] <;> rfl), by repeat (first | (with_reducible first | exact HB.out | apply zG | apply zA | apply zF | refine zH ?_ GE439.out | refine zH ?_ GE440.out) | exact HB.out)⟩
 ·
  rw [if_neg c3] at H
  have c3b0 : (a0_0 == a1_0) = false := beq_eq_false_iff_ne.mpr c3
  have c3b1 : (a0_0 != a1_0) = true := bne_iff_ne.mpr c3
  obtain rfl := Option.some.inj H
  go_enter Try.func16, Try.ntmps16
  go_wp2_with (first | ((with_reducible refine zQ (N := 2) rfl ?_); refine zO ?hg (N := 2) ?hd (cs := #[.int .i64 a0_0, .int .i64 a0_1, .int .i64 a0_2, .int .i64 a0_3, .slice A0_4 l0_4.length c0_4]) (t := 32) ?hr ?_; (case hd => rfl); (case hg => rfl); (case hr => first | (go_simp; done) | (go_simp; rfl)); intro gb439 hg w30 hbox hb; have n0_ := zC.mk (zL (by repeat (first | (with_reducible first | exact HB.out | apply zG | apply zA | apply zF) | exact HB.out)) hb); have n1_ := zC.mk (hbox); have n2_ := zC.mk ((by rw [hg]; exact (zM (by repeat (first | (with_reducible first | exact HB.out | apply zG | apply zA | apply zF) | exact HB.out))) : w.heap.size ≤ gb439)); have n3_ := n2_; clear HB; have HB := n0_; have BK439 := n1_; have GW439 := n2_; have GE439 := n3_; clear n0_ n1_ n2_ n3_; clear hb hbox hg) | ((with_reducible refine zQ (N := 3) rfl ?_); refine zO ?hg (N := 3) ?hd (cs := #[.int .i64 a1_0, .int .i64 a1_1, .int .i64 a1_2, .int .i64 a1_3, .slice A1_4 l1_4.length c1_4]) (t := 32) ?hr ?_; (case hd => rfl); (case hg => rfl); (case hr => first | (go_simp; done) | (go_simp; rfl)); intro gb440 hg w31 hbox hb; have n0_ := zC.mk (zK (g := gb439) (o := .cells #[.int .i64 a0_0, .int .i64 a0_1, .int .i64 a0_2, .int .i64 a0_3, .slice A0_4 l0_4.length c0_4] 32 (0, 0)) (by (with_reducible repeat (first | refine zE ?_ _ | refine zI ?_ | refine zD ?_ _)); exact BK439.out) hb); have n1_ := zC.mk (zL (by repeat (first | (with_reducible first | exact HB.out | apply zG | apply zA | apply zF | refine zH ?_ GE439.out) | exact HB.out)) hb); have n2_ := zC.mk (hbox); have n3_ := zC.mk ((by rw [hg]; exact (zM (by repeat (first | (with_reducible first | exact HB.out | apply zG | apply zA | apply zF | refine zH ?_ GE439.out) | exact HB.out))) : w.heap.size ≤ gb440)); have n4_ := n3_; have n5_ := zC.mk ((by rw [hg]; exact Nat.ne_of_lt (zV (by (with_reducible repeat (first | refine zE ?_ _ | refine zI ?_ | refine zD ?_ _)); exact BK439.out)) : gb439 ≠ gb440)); have n6_ := zC.mk n5_.out.symm; clear BK439; clear HB; have BK439 := n0_; have HB := n1_; have BK440 := n2_; have GW440 := n3_; have GE440 := n4_; have NB439_440 := n5_; have NB440_439 := n6_; clear n0_ n1_ n2_ n3_ n4_ n5_ n6_; clear hb hbox hg; have hnb32 := NB439_440.out; have hnc32 := NB440_439.out; have hcz33_0 : w31.cell? ⟨gb439, 0, none⟩ = some (.int .i64 a0_0) := zB BK439.out 0; have hcz33_1 : w31.cell? ⟨gb439, 1, none⟩ = some (.int .i64 a0_1) := zB BK439.out 1; have hcz33_2 : w31.cell? ⟨gb439, 2, none⟩ = some (.int .i64 a0_2) := zB BK439.out 2; have hcz33_3 : w31.cell? ⟨gb439, 3, none⟩ = some (.int .i64 a0_3) := zB BK439.out 3; have hcz33_4 : w31.cell? ⟨gb439, 4, none⟩ = some (.slice A0_4 l0_4.length c0_4) := zB BK439.out 4; have hcz34_0 : w31.cell? ⟨gb440, 0, none⟩ = some (.int .i64 a1_0) := zB BK440.out 0; have hcz34_1 : w31.cell? ⟨gb440, 1, none⟩ = some (.int .i64 a1_1) := zB BK440.out 1; have hcz34_2 : w31.cell? ⟨gb440, 2, none⟩ = some (.int .i64 a1_2) := zB BK440.out 2; have hcz34_3 : w31.cell? ⟨gb440, 3, none⟩ = some (.int .i64 a1_3) := zB BK440.out 3; have hcz34_4 : w31.cell? ⟨gb440, 4, none⟩ = some (.slice A1_4 l1_4.length c1_4) := zB BK440.out 4))
  go_ret
  exact ⟨by first | rfl | (simp [*, errW_none, errW_some] <;> rfl), by repeat (first | (with_reducible first | exact HB.out | apply zG | apply zA | apply zF | refine zH ?_ GE439.out | refine zH ?_ GE440.out) | exact HB.out)⟩
theorem wQ.calls (a0 : Int) (r : Bool) (w : World) (h : wQ.f a0 = some r) :
  Calls Try.prog 135 #[.int .i64 a0] w fun e w' => e = .returned (.bool r) ∧ Drawn0 w w' := by
 have H : (if a0 = 0 then (some true) else (some (a0 == 1))) = some r := h
 clear h
 by_cases c2 : a0 = 0
 ·
  rw [if_pos c2] at H
  have c2b0 : (a0 == 0) = true := beq_iff_eq.mpr c2
  have c2b1 : (a0 != 0) = false := bne_eq_false_iff_eq.mpr c2
  clear c2
  obtain rfl := Option.some.inj H
  go_enter Try.func135, Try.ntmps135
  go_wp2
  go_ret
  exact ⟨by first | rfl | (simp; done) | (simp [*]; done), by repeat (first | exact Drawn0.refl _ | apply Drawn0.step)⟩
 ·
  rw [if_neg c2] at H
  have c2b0 : (a0 == 0) = false := beq_eq_false_iff_ne.mpr c2
  have c2b1 : (a0 != 0) = true := bne_iff_ne.mpr c2
  obtain rfl := Option.some.inj H
  go_enter Try.func135, Try.ntmps135
  go_wp2
  go_ret
  exact ⟨by first | rfl | (simp; done) | (simp [*]; done), by repeat (first | exact Drawn0.refl _ | apply Drawn0.step)⟩
theorem xI.calls (a0 : Int) (a1 : Int) (a2 : Int) (r : Bool) (w : World) (h : xI.f a0 a1 a2 = some r) :
  Calls Try.prog 53 #[.int .i64 a0, .int .i64 a1, .int .i64 a2] w fun e w' => e = .returned (.bool r) ∧ Drawn0 w w' := by
 have H : (if a0 ≥ a1 then (some (decide (a0 ≤ a2))) else (some false)) = some r := h
 clear h
 by_cases c4 : a0 ≥ a1
 ·
  rw [if_pos c4] at H
  have c4b0 : decide (a1 ≤ a0) = true := decide_eq_true c4
  clear c4
  obtain rfl := Option.some.inj H
  go_enter Try.func53, Try.ntmps53
  go_wp2
  go_ret
  exact ⟨by first | rfl | (simp; done) | (simp [*]; done), by repeat (first | exact Drawn0.refl _ | apply Drawn0.step)⟩
 ·
  rw [if_neg c4] at H
  have c4b0 : decide (a1 ≤ a0) = false := decide_eq_false c4
  clear c4
  obtain rfl := Option.some.inj H
  go_enter Try.func53, Try.ntmps53
  go_wp2
  go_ret
  exact ⟨by first | rfl | (simp; done) | (simp [*]; done), by repeat (first | exact Drawn0.refl _ | apply Drawn0.step)⟩
theorem wH.calls (a0_0 : Int) (a0_1 : Int) (a0_2 : Int) (r : Bool) (w : World) (h : wH.f a0_0 a0_1 a0_2 = some r) :
  Calls Try.prog 136 #[.agg #[.int .i64 a0_0, .int .i64 a0_1, .int .i64 a0_2]] w fun e w' => e = .returned (.bool r) ∧ Below w.heap.size w w' := by
 have hu30 := Try.underlying30
 have HB := zC.mk (Below.refl w.heap.size w)
 have H : ((xI.f a0_0 1 64).bind fun t104 => (if t104 = true then ((xI.f a0_2 1 64).bind fun t105 => (if t105 = true then ((xI.f a0_1 0 (wrap64 (a0_0 - 1))).bind fun t106 => (if t106 = true then (some (decide ((wrap64 (a0_0 * a0_2)) ≤ 64))) else (some false))) else (some false))) else (some false))) = some r := h
 clear h
 replace H := Option.bind_eq_some_iff.mp H
 obtain ⟨t104, A20, H⟩ := H
 replace H : (if t104 = true then ((xI.f a0_2 1 64).bind fun t105 => (if t105 = true then ((xI.f a0_1 0 (wrap64 (a0_0 - 1))).bind fun t106 => (if t106 = true then (some (decide ((wrap64 (a0_0 * a0_2)) ≤ 64))) else (some false))) else (some false))) else (some false)) = some r := H
 have A2 := zC.mk A20
 clear A20
 by_cases c3 : t104 = true
 ·
  subst c3
  have H1 : ((xI.f a0_2 1 64).bind fun t105 => (if t105 = true then ((xI.f a0_1 0 (wrap64 (a0_0 - 1))).bind fun t106 => (if t106 = true then (some (decide ((wrap64 (a0_0 * a0_2)) ≤ 64))) else (some false))) else (some false))) = some r := by rw [if_pos rfl] at H; exact H
  clear H
  have H := H1
  clear H1
  replace H := Option.bind_eq_some_iff.mp H
  obtain ⟨t105, A40, H⟩ := H
  replace H : (if t105 = true then ((xI.f a0_1 0 (wrap64 (a0_0 - 1))).bind fun t106 => (if t106 = true then (some (decide ((wrap64 (a0_0 * a0_2)) ≤ 64))) else (some false))) else (some false)) = some r := H
  have A4 := zC.mk A40
  clear A40
  by_cases c5 : t105 = true
  ·
   subst c5
   have H1 : ((xI.f a0_1 0 (wrap64 (a0_0 - 1))).bind fun t106 => (if t106 = true then (some (decide ((wrap64 (a0_0 * a0_2)) ≤ 64))) else (some false))) = some r := by rw [if_pos rfl] at H; exact H
   clear H
   have H := H1
   clear H1
   replace H := Option.bind_eq_some_iff.mp H
   obtain ⟨t106, A60, H⟩ := H
   replace H : (if t106 = true then (some (decide ((wrap64 (a0_0 * a0_2)) ≤ 64))) else (some false)) = some r := H
   have A6 := zC.mk A60
   clear A60
   by_cases c7 : t106 = true
   ·
    subst c7
    have H1 : (some (decide ((wrap64 (a0_0 * a0_2)) ≤ 64))) = some r := by rw [if_pos rfl] at H; exact H
    clear H
    have H := H1
    clear H1
    obtain rfl := Option.some.inj H
    go_enter Try.func136, Try.ntmps136
    go_wp2_with (first | ((with_reducible refine zQ (N := 1) rfl ?_); refine zO ?hg (N := 1) ?hd (cs := #[.int .i64 a0_0, .int .i64 a0_1, .int .i64 a0_2]) (t := 30) ?hr ?_; (case hd => rfl); (case hg => rfl); (case hr => first | (go_simp; done) | (go_simp; rfl)); intro gb103 hg w8 hbox hb; have n0_ := zC.mk (zL (by repeat (first | (with_reducible first | exact HB.out | apply zG | apply zA | apply zF) | exact HB.out)) hb); have n1_ := zC.mk (hbox); have n2_ := zC.mk ((by rw [hg]; exact (zM (by repeat (first | (with_reducible first | exact HB.out | apply zG | apply zA | apply zF) | exact HB.out))) : w.heap.size ≤ gb103)); have n3_ := n2_; clear HB; have HB := n0_; have BK103 := n1_; have GW103 := n2_; have GE103 := n3_; clear n0_ n1_ n2_ n3_; clear hb hbox hg; have hcz9_0 : w8.cell? ⟨gb103, 0, none⟩ = some (.int .i64 a0_0) := zB BK103.out 0; have hcz9_1 : w8.cell? ⟨gb103, 1, none⟩ = some (.int .i64 a0_1) := zB BK103.out 1; have hcz9_2 : w8.cell? ⟨gb103, 2, none⟩ = some (.int .i64 a0_2) := zB BK103.out 2; have hfz9_0 := zJ BK103.out 0; have hfz9_1 := zJ BK103.out 1; have hfz9_2 := zJ BK103.out 2) | ((with_reducible refine zP (f := 53) rfl ?_); refine zX (some 5) rfl rfl Try.func53 (by kernel_rfl) rfl #[.int .i64 a0_0, .int .i64 1, .int .i64 64] rfl (by (try simp only [List.map_toArray, List.map_cons, List.map_nil]); first | done | rfl) ?_; (with_reducible refine (xI.calls a0_0 1 64 true _ A2.out).mono ?_); rintro e w' ⟨rfl, ⟨nd, rfl⟩⟩; refine ⟨_, rfl, ?_⟩) | (go_at_call 53; (with_reducible refine (xI.calls a0_2 1 64 true _ A4.out).mono ?_); rintro e w' ⟨rfl, ⟨nd, rfl⟩⟩) | (go_at_call 53; (with_reducible refine (xI.calls a0_1 0 (wrap64 (a0_0 - 1)) true _ A6.out).mono ?_); rintro e w' ⟨rfl, ⟨nd, rfl⟩⟩))
    go_ret
    exact ⟨by first | rfl | (simp [*, errW_none, errW_some] <;> rfl), by repeat (first | (with_reducible first | exact HB.out | apply zG | apply zA | apply zF | refine zH ?_ GE103.out) | exact HB.out)⟩
   ·
    replace c7 := Bool.eq_false_iff.mpr c7
    subst c7
    have H1 : (some false) = some r := by rw [if_neg (show ¬ (false = true) by decide)] at H; exact H
    clear H
    have H := H1
    clear H1
    obtain rfl := Option.some.inj H
    go_enter Try.func136, Try.ntmps136
    go_wp2_with (first | ((with_reducible refine zQ (N := 1) rfl ?_); refine zO ?hg (N := 1) ?hd (cs := #[.int .i64 a0_0, .int .i64 a0_1, .int .i64 a0_2]) (t := 30) ?hr ?_; (case hd => rfl); (case hg => rfl); (case hr => first | (go_simp; done) | (go_simp; rfl)); intro gb103 hg w10 hbox hb; have n0_ := zC.mk (zL (by repeat (first | (with_reducible first | exact HB.out | apply zG | apply zA | apply zF) | exact HB.out)) hb); have n1_ := zC.mk (hbox); have n2_ := zC.mk ((by rw [hg]; exact (zM (by repeat (first | (with_reducible first | exact HB.out | apply zG | apply zA | apply zF) | exact HB.out))) : w.heap.size ≤ gb103)); have n3_ := n2_; clear HB; have HB := n0_; have BK103 := n1_; have GW103 := n2_; have GE103 := n3_; clear n0_ n1_ n2_ n3_; clear hb hbox hg; have hcz11_0 : w10.cell? ⟨gb103, 0, none⟩ = some (.int .i64 a0_0) := zB BK103.out 0; have hcz11_1 : w10.cell? ⟨gb103, 1, none⟩ = some (.int .i64 a0_1) := zB BK103.out 1; have hcz11_2 : w10.cell? ⟨gb103, 2, none⟩ = some (.int .i64 a0_2) := zB BK103.out 2; have hfz11_0 := zJ BK103.out 0; have hfz11_1 := zJ BK103.out 1; have hfz11_2 := zJ BK103.out 2) | ((with_reducible refine zP (f := 53) rfl ?_); refine zX (some 5) rfl rfl Try.func53 (by kernel_rfl) rfl #[.int .i64 a0_0, .int .i64 1, .int .i64 64] rfl (by (try simp only [List.map_toArray, List.map_cons, List.map_nil]); first | done | rfl) ?_; (with_reducible refine (xI.calls a0_0 1 64 true _ A2.out).mono ?_); rintro e w' ⟨rfl, ⟨nd, rfl⟩⟩; refine ⟨_, rfl, ?_⟩) | (go_at_call 53; (with_reducible refine (xI.calls a0_2 1 64 true _ A4.out).mono ?_); rintro e w' ⟨rfl, ⟨nd, rfl⟩⟩) | (go_at_call 53; (with_reducible refine (xI.calls a0_1 0 (wrap64 (a0_0 - 1)) false _ A6.out).mono ?_); rintro e w' ⟨rfl, ⟨nd, rfl⟩⟩))
    go_ret
    exact ⟨by first | rfl | (simp [*, errW_none, errW_some] <;> rfl), by repeat (first | (with_reducible first | exact HB.out | apply zG | apply zA | apply zF | refine zH ?_ GE103.out) | exact HB.out)⟩
  ·
   replace c5 := Bool.eq_false_iff.mpr c5
   subst c5
   have H1 : (some false) = some r := by rw [if_neg (show ¬ (false = true) by decide)] at H; exact H
   clear H
   have H := H1
   clear H1
   obtain rfl := Option.some.inj H
   go_enter Try.func136, Try.ntmps136
   go_wp2_with (first | ((with_reducible refine zQ (N := 1) rfl ?_); refine zO ?hg (N := 1) ?hd (cs := #[.int .i64 a0_0, .int .i64 a0_1, .int .i64 a0_2]) (t := 30) ?hr ?_; (case hd => rfl); (case hg => rfl); (case hr => first | (go_simp; done) | (go_simp; rfl)); intro gb103 hg w12 hbox hb; have n0_ := zC.mk (zL (by repeat (first | (with_reducible first | exact HB.out | apply zG | apply zA | apply zF) | exact HB.out)) hb); have n1_ := zC.mk (hbox); have n2_ := zC.mk ((by rw [hg]; exact (zM (by repeat (first | (with_reducible first | exact HB.out | apply zG | apply zA | apply zF) | exact HB.out))) : w.heap.size ≤ gb103)); have n3_ := n2_; clear HB; have HB := n0_; have BK103 := n1_; have GW103 := n2_; have GE103 := n3_; clear n0_ n1_ n2_ n3_; clear hb hbox hg; have hcz13_0 : w12.cell? ⟨gb103, 0, none⟩ = some (.int .i64 a0_0) := zB BK103.out 0; have hcz13_1 : w12.cell? ⟨gb103, 1, none⟩ = some (.int .i64 a0_1) := zB BK103.out 1; have hcz13_2 : w12.cell? ⟨gb103, 2, none⟩ = some (.int .i64 a0_2) := zB BK103.out 2; have hfz13_0 := zJ BK103.out 0; have hfz13_1 := zJ BK103.out 1; have hfz13_2 := zJ BK103.out 2) | ((with_reducible refine zP (f := 53) rfl ?_); refine zX (some 5) rfl rfl Try.func53 (by kernel_rfl) rfl #[.int .i64 a0_0, .int .i64 1, .int .i64 64] rfl (by (try simp only [List.map_toArray, List.map_cons, List.map_nil]); first | done | rfl) ?_; (with_reducible refine (xI.calls a0_0 1 64 true _ A2.out).mono ?_); rintro e w' ⟨rfl, ⟨nd, rfl⟩⟩; refine ⟨_, rfl, ?_⟩) | (go_at_call 53; (with_reducible refine (xI.calls a0_2 1 64 false _ A4.out).mono ?_); rintro e w' ⟨rfl, ⟨nd, rfl⟩⟩))
   go_ret
   exact ⟨by first | rfl | (simp [*, errW_none, errW_some] <;> rfl), by repeat (first | (with_reducible first | exact HB.out | apply zG | apply zA | apply zF | refine zH ?_ GE103.out) | exact HB.out)⟩
 ·
  replace c3 := Bool.eq_false_iff.mpr c3
  subst c3
  have H1 : (some false) = some r := by rw [if_neg (show ¬ (false = true) by decide)] at H; exact H
  clear H
  have H := H1
  clear H1
  obtain rfl := Option.some.inj H
  go_enter Try.func136, Try.ntmps136
  go_wp2_with (first | ((with_reducible refine zQ (N := 1) rfl ?_); refine zO ?hg (N := 1) ?hd (cs := #[.int .i64 a0_0, .int .i64 a0_1, .int .i64 a0_2]) (t := 30) ?hr ?_; (case hd => rfl); (case hg => rfl); (case hr => first | (go_simp; done) | (go_simp; rfl)); intro gb103 hg w14 hbox hb; have n0_ := zC.mk (zL (by repeat (first | (with_reducible first | exact HB.out | apply zG | apply zA | apply zF) | exact HB.out)) hb); have n1_ := zC.mk (hbox); have n2_ := zC.mk ((by rw [hg]; exact (zM (by repeat (first | (with_reducible first | exact HB.out | apply zG | apply zA | apply zF) | exact HB.out))) : w.heap.size ≤ gb103)); have n3_ := n2_; clear HB; have HB := n0_; have BK103 := n1_; have GW103 := n2_; have GE103 := n3_; clear n0_ n1_ n2_ n3_; clear hb hbox hg; have hcz15_0 : w14.cell? ⟨gb103, 0, none⟩ = some (.int .i64 a0_0) := zB BK103.out 0; have hcz15_1 : w14.cell? ⟨gb103, 1, none⟩ = some (.int .i64 a0_1) := zB BK103.out 1; have hcz15_2 : w14.cell? ⟨gb103, 2, none⟩ = some (.int .i64 a0_2) := zB BK103.out 2; have hfz15_0 := zJ BK103.out 0; have hfz15_1 := zJ BK103.out 1; have hfz15_2 := zJ BK103.out 2) | ((with_reducible refine zP (f := 53) rfl ?_); refine zX (some 5) rfl rfl Try.func53 (by kernel_rfl) rfl #[.int .i64 a0_0, .int .i64 1, .int .i64 64] rfl (by (try simp only [List.map_toArray, List.map_cons, List.map_nil]); first | done | rfl) ?_; (with_reducible refine (xI.calls a0_0 1 64 false _ A2.out).mono ?_); rintro e w' ⟨rfl, ⟨nd, rfl⟩⟩; refine ⟨_, rfl, ?_⟩))
  go_ret
  exact ⟨by first | rfl | (simp [*, errW_none, errW_some] <;> rfl), by repeat (first | (with_reducible first | exact HB.out | apply zG | apply zA | apply zF | refine zH ?_ GE103.out) | exact HB.out)⟩
theorem wL.calls (a0 : Int) (a1_0 : Int) (a1_1 : Int) (a1_2 : Int) (r : Int) (w : World) (h : wL.f a0 a1_0 a1_1 a1_2 = some r) :
  Calls Try.prog 99 #[.int .i64 a0, .agg #[.int .i64 a1_0, .int .i64 a1_1, .int .i64 a1_2]] w fun e w' => e = .returned (.int .i64 r) ∧ Below w.heap.size w w' := by
 have hu30 := Try.underlying30
 have HB := zC.mk (Below.refl w.heap.size w)
 have H : ((wQ.f a0).bind fun t108 => (if t108 = true then ((wH.f a1_0 a1_1 a1_2).bind fun t109 => (if t109 = true then (some 0) else (some 1))) else (some 1))) = some r := h
 clear h
 replace H := Option.bind_eq_some_iff.mp H
 obtain ⟨t108, A30, H⟩ := H
 replace H : (if t108 = true then ((wH.f a1_0 a1_1 a1_2).bind fun t109 => (if t109 = true then (some 0) else (some 1))) else (some 1)) = some r := H
 have A3 := zC.mk A30
 clear A30
 by_cases c4 : t108 = true
 ·
  subst c4
  have H1 : ((wH.f a1_0 a1_1 a1_2).bind fun t109 => (if t109 = true then (some 0) else (some 1))) = some r := by rw [if_pos rfl] at H; exact H
  clear H
  have H := H1
  clear H1
  replace H := Option.bind_eq_some_iff.mp H
  obtain ⟨t109, A50, H⟩ := H
  replace H : (if t109 = true then (some 0) else (some 1)) = some r := H
  have A5 := zC.mk A50
  clear A50
  by_cases c6 : t109 = true
  ·
   subst c6
   have H1 : (some 0) = some r := by rw [if_pos rfl] at H; exact H
   clear H
   have H := H1
   clear H1
   obtain rfl := Option.some.inj H
   go_enter Try.func99, Try.ntmps99
   go_wp2_with (first | ((with_reducible refine zQ (N := 3) rfl ?_); refine zO ?hg (N := 3) ?hd (cs := #[.int .i64 a1_0, .int .i64 a1_1, .int .i64 a1_2]) (t := 30) ?hr ?_; (case hd => rfl); (case hg => rfl); (case hr => first | (go_simp; done) | (go_simp; rfl)); intro gb107 hg w7 hbox hb; have n0_ := zC.mk (zL (by repeat (first | (with_reducible first | exact HB.out | apply zG | apply zA | apply zF) | exact HB.out)) hb); have n1_ := zC.mk (hbox); have n2_ := zC.mk ((by rw [hg]; exact (zM (by repeat (first | (with_reducible first | exact HB.out | apply zG | apply zA | apply zF) | exact HB.out))) : w.heap.size ≤ gb107)); have n3_ := n2_; clear HB; have HB := n0_; have BK107 := n1_; have GW107 := n2_; have GE107 := n3_; clear n0_ n1_ n2_ n3_; clear hb hbox hg) | ((with_reducible refine zP (f := 135) rfl ?_); refine zX (some 6) rfl rfl Try.func135 (by kernel_rfl) rfl #[.int .i64 a0] rfl (by (try simp only [List.map_toArray, List.map_cons, List.map_nil]); first | done | rfl) ?_; (with_reducible refine (wQ.calls a0 true _ A3.out).mono ?_); rintro e w' ⟨rfl, ⟨nd, rfl⟩⟩; refine ⟨_, rfl, ?_⟩; have hcz8_0 : w7.cell? ⟨gb107, 0, none⟩ = some (.int .i64 a1_0) := zB BK107.out 0; have hcz8_1 : w7.cell? ⟨gb107, 1, none⟩ = some (.int .i64 a1_1) := zB BK107.out 1; have hcz8_2 : w7.cell? ⟨gb107, 2, none⟩ = some (.int .i64 a1_2) := zB BK107.out 2; have hfz8_0 := zJ BK107.out 0; have hfz8_1 := zJ BK107.out 1; have hfz8_2 := zJ BK107.out 2) | (go_at_call 136; (with_reducible refine (wH.calls a1_0 a1_1 a1_2 true _ A5.out).mono ?_); rintro e w9 ⟨rfl, hb⟩; have n0_ := zC.mk (zK (g := gb107) (o := .cells #[.int .i64 a1_0, .int .i64 a1_1, .int .i64 a1_2] 30 (0, 0)) (by (with_reducible repeat (first | refine zE ?_ _ | refine zI ?_ | refine zD ?_ _)); exact BK107.out) hb); have n1_ := zC.mk (zL (by repeat (first | (with_reducible first | exact HB.out | apply zG | apply zA | apply zF | refine zH ?_ GE107.out) | exact HB.out)) hb); clear BK107; clear HB; have BK107 := n0_; have HB := n1_; clear n0_ n1_; (try clear hb)))
   go_ret
   exact ⟨by first | rfl | (simp [*, errW_none, errW_some] <;> rfl), by repeat (first | (with_reducible first | exact HB.out | apply zG | apply zA | apply zF | refine zH ?_ GE107.out) | exact HB.out)⟩
  ·
   replace c6 := Bool.eq_false_iff.mpr c6
   subst c6
   have H1 : (some 1) = some r := by rw [if_neg (show ¬ (false = true) by decide)] at H; exact H
   clear H
   have H := H1
   clear H1
   obtain rfl := Option.some.inj H
   go_enter Try.func99, Try.ntmps99
   go_wp2_with (first | ((with_reducible refine zQ (N := 3) rfl ?_); refine zO ?hg (N := 3) ?hd (cs := #[.int .i64 a1_0, .int .i64 a1_1, .int .i64 a1_2]) (t := 30) ?hr ?_; (case hd => rfl); (case hg => rfl); (case hr => first | (go_simp; done) | (go_simp; rfl)); intro gb107 hg w10 hbox hb; have n0_ := zC.mk (zL (by repeat (first | (with_reducible first | exact HB.out | apply zG | apply zA | apply zF) | exact HB.out)) hb); have n1_ := zC.mk (hbox); have n2_ := zC.mk ((by rw [hg]; exact (zM (by repeat (first | (with_reducible first | exact HB.out | apply zG | apply zA | apply zF) | exact HB.out))) : w.heap.size ≤ gb107)); have n3_ := n2_; clear HB; have HB := n0_; have BK107 := n1_; have GW107 := n2_; have GE107 := n3_; clear n0_ n1_ n2_ n3_; clear hb hbox hg) | ((with_reducible refine zP (f := 135) rfl ?_); refine zX (some 6) rfl rfl Try.func135 (by kernel_rfl) rfl #[.int .i64 a0] rfl (by (try simp only [List.map_toArray, List.map_cons, List.map_nil]); first | done | rfl) ?_; (with_reducible refine (wQ.calls a0 true _ A3.out).mono ?_); rintro e w' ⟨rfl, ⟨nd, rfl⟩⟩; refine ⟨_, rfl, ?_⟩; have hcz11_0 : w10.cell? ⟨gb107, 0, none⟩ = some (.int .i64 a1_0) := zB BK107.out 0; have hcz11_1 : w10.cell? ⟨gb107, 1, none⟩ = some (.int .i64 a1_1) := zB BK107.out 1; have hcz11_2 : w10.cell? ⟨gb107, 2, none⟩ = some (.int .i64 a1_2) := zB BK107.out 2; have hfz11_0 := zJ BK107.out 0; have hfz11_1 := zJ BK107.out 1; have hfz11_2 := zJ BK107.out 2) | (go_at_call 136; (with_reducible refine (wH.calls a1_0 a1_1 a1_2 false _ A5.out).mono ?_); rintro e w12 ⟨rfl, hb⟩; have n0_ := zC.mk (zK (g := gb107) (o := .cells #[.int .i64 a1_0, .int .i64 a1_1, .int .i64 a1_2] 30 (0, 0)) (by (with_reducible repeat (first | refine zE ?_ _ | refine zI ?_ | refine zD ?_ _)); exact BK107.out) hb); have n1_ := zC.mk (zL (by repeat (first | (with_reducible first | exact HB.out | apply zG | apply zA | apply zF | refine zH ?_ GE107.out) | exact HB.out)) hb); clear BK107; clear HB; have BK107 := n0_; have HB := n1_; clear n0_ n1_; (try clear hb)))
   go_ret
   exact ⟨by first | rfl | (simp [*, errW_none, errW_some] <;> rfl), by repeat (first | (with_reducible first | exact HB.out | apply zG | apply zA | apply zF | refine zH ?_ GE107.out) | exact HB.out)⟩
 ·
  replace c4 := Bool.eq_false_iff.mpr c4
  subst c4
  have H1 : (some 1) = some r := by rw [if_neg (show ¬ (false = true) by decide)] at H; exact H
  clear H
  have H := H1
  clear H1
  obtain rfl := Option.some.inj H
  go_enter Try.func99, Try.ntmps99
  go_wp2_with (first | ((with_reducible refine zQ (N := 3) rfl ?_); refine zO ?hg (N := 3) ?hd (cs := #[.int .i64 a1_0, .int .i64 a1_1, .int .i64 a1_2]) (t := 30) ?hr ?_; (case hd => rfl); (case hg => rfl); (case hr => first | (go_simp; done) | (go_simp; rfl)); intro gb107 hg w13 hbox hb; have n0_ := zC.mk (zL (by repeat (first | (with_reducible first | exact HB.out | apply zG | apply zA | apply zF) | exact HB.out)) hb); have n1_ := zC.mk (hbox); have n2_ := zC.mk ((by rw [hg]; exact (zM (by repeat (first | (with_reducible first | exact HB.out | apply zG | apply zA | apply zF) | exact HB.out))) : w.heap.size ≤ gb107)); have n3_ := n2_; clear HB; have HB := n0_; have BK107 := n1_; have GW107 := n2_; have GE107 := n3_; clear n0_ n1_ n2_ n3_; clear hb hbox hg) | ((with_reducible refine zP (f := 135) rfl ?_); refine zX (some 6) rfl rfl Try.func135 (by kernel_rfl) rfl #[.int .i64 a0] rfl (by (try simp only [List.map_toArray, List.map_cons, List.map_nil]); first | done | rfl) ?_; (with_reducible refine (wQ.calls a0 false _ A3.out).mono ?_); rintro e w' ⟨rfl, ⟨nd, rfl⟩⟩; refine ⟨_, rfl, ?_⟩))
  go_ret
  exact ⟨by first | rfl | (simp [*, errW_none, errW_some] <;> rfl), by repeat (first | (with_reducible first | exact HB.out | apply zG | apply zA | apply zF | refine zH ?_ GE107.out) | exact HB.out)⟩
theorem yY.calls (k : Nat) (A0 : Option Addr) (c0 : Nat) (l0 : List Int) (a1 : Int) (a2 : Int) (a3 : Int) (r : Bool) (w : World) (hr0 : Kd.C (Kd.int .i64) w A0 l0.length l0) (hc0 : l0.length ≤ c0) (h : yY.f k l0 a1 a2 a3 = some r) :
  Calls Try.prog 126 #[.slice A0 l0.length c0, .int .i64 a1, .int .i64 a2, .int .i64 a3] w fun e w' => e = .returned (.bool r) ∧ Drawn0 w w' := by
 have HR0 := zC.mk hr0
 have HC0 := zC.mk hc0
 clear hr0 hc0
 have H : (yY.l0 k l0 a1 a2 a3 0) = some r := h
 clear h
 have H' := zC.mk H
 clear H
 go_enter Try.func126, Try.ntmps126
 go_wp2
 go_loopg [9] k (fun kq v9 w' => ∃ (x9_1 : Int), v9 = .int .i64 x9_1 ∧ zC (yY.l0 kq l0 a1 a2 a3 x9_1 = some r) ∧ zC (kq ≤ k) ∧ Drawn0 w w')
 case atStart => exact ⟨(0), (by first | rfl | (simp; done) | (simp [*]; done)), H', ⟨Nat.le_refl _⟩, by repeat (first | exact Drawn0.refl _ | apply Drawn0.step)⟩
 case round =>
  clear H'
  try clear c1
  try clear p2
  obtain ⟨x9_1, rfl, HA, HK1, ⟨m1, rfl⟩⟩ := hrel
  cases gk with
  | zero => exact absurd HA.out (by simp [yY.l0])
  | succ k1 =>
   have H := HA.out
   clear HA
   simp only [yY.l0] at H
   by_cases c5 : x9_1 < (l0.length : Int)
   ·
    rw [if_pos c5] at H
    have c5b0 : decide (x9_1 < (l0.length : Int)) = true := decide_eq_true c5
    clear c5
    by_cases c6 : 0 ≤ x9_1
    ·
     rw [if_pos c6] at H
     have c6b0 : decide (0 ≤ x9_1) = true := decide_eq_true c6
     clear c6
     replace H := Option.bind_eq_some_iff.mp H
     obtain ⟨t111, A70, H⟩ := H
     replace H : (if t111 = true then (yY.l0 k1 l0 a1 a2 a3 (wrap64 (x9_1 + 1))) else (some false)) = some r := H
     have A7 := zC.mk A70
     clear A70
     by_cases c8 : t111 = true
     ·
      subst c8
      have H1 : (yY.l0 k1 l0 a1 a2 a3 (wrap64 (x9_1 + 1))) = some r := by rw [if_pos rfl] at H; exact H
      clear H
      have H := H1
      clear H1
      have H' := zC.mk H
      clear H
      have p110 : 0 ≤ (x9_1 : Int) := of_decide_eq_true (by first | (with_reducible assumption) | assumption)
      have q110 : x9_1 < (l0.length : Int) := of_decide_eq_true (by first | (with_reducible assumption) | assumption)
      obtain ⟨ad110, e110, hx110_0⟩ := Kd.at_int HR0.out x9_1 p110 q110
      cases e110
      replace p110 := eq_true p110
      replace q110 := eq_true q110
      go_wp2_with (first | ((with_reducible refine zP (f := 53) rfl ?_); refine zX (some 22) rfl rfl Try.func53 (by kernel_rfl) rfl #[.int .i64 (rd l0 x9_1), .int .i64 a2, .int .i64 a3] rfl (by (try simp only [List.map_toArray, List.map_cons, List.map_nil]); first | done | rfl) ?_; (with_reducible refine (xI.calls (rd l0 x9_1) a2 a3 true _ A7.out).mono ?_); rintro e w' ⟨rfl, ⟨nd, rfl⟩⟩; refine ⟨_, rfl, ?_⟩))
      go_roundg k1
      case measure => have := HK1.out; omega
      case rel => exact ⟨(wrap64 (x9_1 + 1)), (by first | rfl | (simp; done) | (simp [*]; done)), H', ⟨by have := HK1.out; omega⟩, by repeat (first | exact Drawn0.refl _ | apply Drawn0.step)⟩
     ·
      replace c8 := Bool.eq_false_iff.mpr c8
      subst c8
      have H1 : (some false) = some r := by rw [if_neg (show ¬ (false = true) by decide)] at H; exact H
      clear H
      have H := H1
      clear H1
      obtain rfl := Option.some.inj H
      have p110 : 0 ≤ (x9_1 : Int) := of_decide_eq_true (by first | (with_reducible assumption) | assumption)
      have q110 : x9_1 < (l0.length : Int) := of_decide_eq_true (by first | (with_reducible assumption) | assumption)
      obtain ⟨ad110, e110, hx110_0⟩ := Kd.at_int HR0.out x9_1 p110 q110
      cases e110
      replace p110 := eq_true p110
      replace q110 := eq_true q110
      go_wp2_with (first | ((with_reducible refine zP (f := 53) rfl ?_); refine zX (some 22) rfl rfl Try.func53 (by kernel_rfl) rfl #[.int .i64 (rd l0 x9_1), .int .i64 a2, .int .i64 a3] rfl (by (try simp only [List.map_toArray, List.map_cons, List.map_nil]); first | done | rfl) ?_; (with_reducible refine (xI.calls (rd l0 x9_1) a2 a3 false _ A7.out).mono ?_); rintro e w' ⟨rfl, ⟨nd, rfl⟩⟩; refine ⟨_, rfl, ?_⟩))
      go_ret
      exact ⟨by first | rfl | (simp; done) | (simp [*]; done), by repeat (first | exact Drawn0.refl _ | apply Drawn0.step)⟩
    ·
     rw [if_neg c6] at H
     exact absurd H (by simp)
   ·
    rw [if_neg c5] at H
    have c5b0 : decide (x9_1 < (l0.length : Int)) = false := decide_eq_false c5
    clear c5
    obtain rfl := Option.some.inj H
    go_wp2
    go_ret
    exact ⟨by first | rfl | (simp; done) | (simp [*]; done), by repeat (first | exact Drawn0.refl _ | apply Drawn0.step)⟩
theorem xN.calls (k : Nat) (a0_0 : Int) (a0_1 : Int) (a0_2 : Int) (a0_3 : Int) (A0_4 : Option Addr) (c0_4 : Nat) (l0_4 : List Int) (r : Bool) (w : World) (hr0_4 : Kd.C (Kd.int .i64) w A0_4 l0_4.length l0_4) (hc0_4 : l0_4.length ≤ c0_4) (h : xN.f k a0_0 a0_1 a0_2 a0_3 l0_4 = some r) :
  Calls Try.prog 90 #[.agg #[.int .i64 a0_0, .int .i64 a0_1, .int .i64 a0_2, .int .i64 a0_3, .slice A0_4 l0_4.length c0_4]] w fun e w' => e = .returned (.bool r) ∧ Below w.heap.size w w' := by
 have hu32 := Try.underlying32
 have hu30 := Try.underlying30
 have HR0_4 := zC.mk hr0_4
 have HC0_4 := zC.mk hc0_4
 clear hr0_4 hc0_4
 have HB := zC.mk (Below.refl w.heap.size w)
 have H : ((wL.f a0_0 a0_1 a0_2 a0_3).bind fun t113 => (if t113 = 0 then (if (l0_4.length : Int) = (wrap64 (a0_1 * a0_3)) then ((yY.f k l0_4 64 0 9).bind fun t114 => (some t114)) else (some false)) else (some false))) = some r := h
 clear h
 replace H := Option.bind_eq_some_iff.mp H
 obtain ⟨t113, A20, H⟩ := H
 replace H : (if t113 = 0 then (if (l0_4.length : Int) = (wrap64 (a0_1 * a0_3)) then ((yY.f k l0_4 64 0 9).bind fun t114 => (some t114)) else (some false)) else (some false)) = some r := H
 have A2 := zC.mk A20
 clear A20
 by_cases c3 : t113 = 0
 ·
  rw [if_pos c3] at H
  have c3b0 : (t113 == 0) = true := beq_iff_eq.mpr c3
  have c3b1 : (t113 != 0) = false := bne_eq_false_iff_eq.mpr c3
  clear c3
  by_cases c4 : (l0_4.length : Int) = (wrap64 (a0_1 * a0_3))
  ·
   rw [if_pos c4] at H
   have c4b0 : ((l0_4.length : Int) == (wrap64 (a0_1 * a0_3))) = true := beq_iff_eq.mpr c4
   have c4b1 : ((l0_4.length : Int) != (wrap64 (a0_1 * a0_3))) = false := bne_eq_false_iff_eq.mpr c4
   clear c4
   replace H := Option.bind_eq_some_iff.mp H
   obtain ⟨t114, A50, H⟩ := H
   replace H : (some t114) = some r := H
   have A5 := zC.mk A50
   clear A50
   obtain rfl := Option.some.inj H
   go_enter Try.func90, Try.ntmps90
   go_wp2_with (first | ((with_reducible refine zQ (N := 1) rfl ?_); (try (refine gate_guard (by rfl) ?_; dsimp only)); refine zO ?hg (N := 1) ?hd (cs := #[.int .i64 a0_0, .int .i64 a0_1, .int .i64 a0_2, .int .i64 a0_3, .slice A0_4 l0_4.length c0_4]) (t := 32) ?hr ?_; (case hd => rfl); (case hg => rfl); (case hr => first | (go_simp; done) | (go_simp; rfl)); intro gb112 hg w6 hbox hb; have n0_ := zC.mk (zL (by repeat (first | (with_reducible first | exact HB.out | apply zG | apply zA | apply zF) | exact HB.out)) hb); have n1_ := zC.mk (hbox); have n2_ := zC.mk ((by rw [hg]; exact (zM (by repeat (first | (with_reducible first | exact HB.out | apply zG | apply zA | apply zF) | exact HB.out))) : w.heap.size ≤ gb112)); have n3_ := n2_; clear HB; have HB := n0_; have BK112 := n1_; have GW112 := n2_; have GE112 := n3_; clear n0_ n1_ n2_ n3_; clear hb hbox hg; have hcz7_0 : w6.cell? ⟨gb112, 0, none⟩ = some (.int .i64 a0_0) := zB BK112.out 0; have hcz7_1 : w6.cell? ⟨gb112, 1, none⟩ = some (.int .i64 a0_1) := zB BK112.out 1; have hcz7_2 : w6.cell? ⟨gb112, 2, none⟩ = some (.int .i64 a0_2) := zB BK112.out 2; have hcz7_3 : w6.cell? ⟨gb112, 3, none⟩ = some (.int .i64 a0_3) := zB BK112.out 3; have hcz7_4 : w6.cell? ⟨gb112, 4, none⟩ = some (.slice A0_4 l0_4.length c0_4) := zB BK112.out 4) | ((with_reducible refine zP (f := 99) rfl ?_); refine zX (some 7) rfl rfl Try.func99 (by kernel_rfl) rfl #[.int .i64 a0_0, .agg #[.int .i64 a0_1, .int .i64 a0_2, .int .i64 a0_3]] rfl (by (try simp only [List.map_toArray, List.map_cons, List.map_nil]); first | done | rfl) ?_; (with_reducible refine (wL.calls a0_0 a0_1 a0_2 a0_3 t113 _ A2.out).mono ?_); rintro e w8 ⟨rfl, hb⟩; refine ⟨_, rfl, ?_⟩; have n0_ := zC.mk (zK (g := gb112) (o := .cells #[.int .i64 a0_0, .int .i64 a0_1, .int .i64 a0_2, .int .i64 a0_3, .slice A0_4 l0_4.length c0_4] 32 (0, 0)) (by (with_reducible repeat (first | refine zE ?_ _ | refine zI ?_ | refine zD ?_ _)); exact BK112.out) hb); have n1_ := zC.mk (zL (by repeat (first | (with_reducible first | exact HB.out | apply zG | apply zA | apply zF | refine zH ?_ GE112.out) | exact HB.out)) hb); clear BK112; clear HB; have BK112 := n0_; have HB := n1_; clear n0_ n1_; (try clear hb); have hcz9_0 : w8.cell? ⟨gb112, 0, none⟩ = some (.int .i64 a0_0) := zB BK112.out 0; have hcz9_1 : w8.cell? ⟨gb112, 1, none⟩ = some (.int .i64 a0_1) := zB BK112.out 1; have hcz9_2 : w8.cell? ⟨gb112, 2, none⟩ = some (.int .i64 a0_2) := zB BK112.out 2; have hcz9_3 : w8.cell? ⟨gb112, 3, none⟩ = some (.int .i64 a0_3) := zB BK112.out 3; have hcz9_4 : w8.cell? ⟨gb112, 4, none⟩ = some (.slice A0_4 l0_4.length c0_4) := zB BK112.out 4) | (go_at_call 126; (with_reducible refine (yY.calls k _ _ l0_4 64 0 9 t114 _ ?side1 ?side2 A5.out).mono ?_); (case side1 => repeat (first | exact (Kd.C_below HR0_4.out HB.out) | (with_reducible refine Kd.C_alloc ?_ _) | (with_reducible refine Kd.C_drewN ?_ _) | (with_reducible refine Kd.C_drew ?_))); (case side2 => exact HC0_4.out); rintro e w' ⟨rfl, ⟨nd, rfl⟩⟩))
   go_ret
   exact ⟨by first | rfl | (simp [*, errW_none, errW_some] <;> rfl), by repeat (first | (with_reducible first | exact HB.out | apply zG | apply zA | apply zF | refine zH ?_ GE112.out) | exact HB.out)⟩
  ·
   rw [if_neg c4] at H
   have c4b0 : ((l0_4.length : Int) == (wrap64 (a0_1 * a0_3))) = false := beq_eq_false_iff_ne.mpr c4
   have c4b1 : ((l0_4.length : Int) != (wrap64 (a0_1 * a0_3))) = true := bne_iff_ne.mpr c4
   obtain rfl := Option.some.inj H
   go_enter Try.func90, Try.ntmps90
   go_wp2_with (first | ((with_reducible refine zQ (N := 1) rfl ?_); (try (refine gate_guard (by rfl) ?_; dsimp only)); refine zO ?hg (N := 1) ?hd (cs := #[.int .i64 a0_0, .int .i64 a0_1, .int .i64 a0_2, .int .i64 a0_3, .slice A0_4 l0_4.length c0_4]) (t := 32) ?hr ?_; (case hd => rfl); (case hg => rfl); (case hr => first | (go_simp; done) | (go_simp; rfl)); intro gb112 hg w10 hbox hb; have n0_ := zC.mk (zL (by repeat (first | (with_reducible first | exact HB.out | apply zG | apply zA | apply zF) | exact HB.out)) hb); have n1_ := zC.mk (hbox); have n2_ := zC.mk ((by rw [hg]; exact (zM (by repeat (first | (with_reducible first | exact HB.out | apply zG | apply zA | apply zF) | exact HB.out))) : w.heap.size ≤ gb112)); have n3_ := n2_; clear HB; have HB := n0_; have BK112 := n1_; have GW112 := n2_; have GE112 := n3_; clear n0_ n1_ n2_ n3_; clear hb hbox hg; have hcz11_0 : w10.cell? ⟨gb112, 0, none⟩ = some (.int .i64 a0_0) := zB BK112.out 0; have hcz11_1 : w10.cell? ⟨gb112, 1, none⟩ = some (.int .i64 a0_1) := zB BK112.out 1; have hcz11_2 : w10.cell? ⟨gb112, 2, none⟩ = some (.int .i64 a0_2) := zB BK112.out 2; have hcz11_3 : w10.cell? ⟨gb112, 3, none⟩ = some (.int .i64 a0_3) := zB BK112.out 3; have hcz11_4 : w10.cell? ⟨gb112, 4, none⟩ = some (.slice A0_4 l0_4.length c0_4) := zB BK112.out 4) | ((with_reducible refine zP (f := 99) rfl ?_); refine zX (some 7) rfl rfl Try.func99 (by kernel_rfl) rfl #[.int .i64 a0_0, .agg #[.int .i64 a0_1, .int .i64 a0_2, .int .i64 a0_3]] rfl (by (try simp only [List.map_toArray, List.map_cons, List.map_nil]); first | done | rfl) ?_; (with_reducible refine (wL.calls a0_0 a0_1 a0_2 a0_3 t113 _ A2.out).mono ?_); rintro e w12 ⟨rfl, hb⟩; refine ⟨_, rfl, ?_⟩; have n0_ := zC.mk (zK (g := gb112) (o := .cells #[.int .i64 a0_0, .int .i64 a0_1, .int .i64 a0_2, .int .i64 a0_3, .slice A0_4 l0_4.length c0_4] 32 (0, 0)) (by (with_reducible repeat (first | refine zE ?_ _ | refine zI ?_ | refine zD ?_ _)); exact BK112.out) hb); have n1_ := zC.mk (zL (by repeat (first | (with_reducible first | exact HB.out | apply zG | apply zA | apply zF | refine zH ?_ GE112.out) | exact HB.out)) hb); clear BK112; clear HB; have BK112 := n0_; have HB := n1_; clear n0_ n1_; (try clear hb); have hcz13_0 : w12.cell? ⟨gb112, 0, none⟩ = some (.int .i64 a0_0) := zB BK112.out 0; have hcz13_1 : w12.cell? ⟨gb112, 1, none⟩ = some (.int .i64 a0_1) := zB BK112.out 1; have hcz13_2 : w12.cell? ⟨gb112, 2, none⟩ = some (.int .i64 a0_2) := zB BK112.out 2; have hcz13_3 : w12.cell? ⟨gb112, 3, none⟩ = some (.int .i64 a0_3) := zB BK112.out 3; have hcz13_4 : w12.cell? ⟨gb112, 4, none⟩ = some (.slice A0_4 l0_4.length c0_4) := zB BK112.out 4))
   go_ret
   exact ⟨by first | rfl | (simp [*, errW_none, errW_some] <;> rfl), by repeat (first | (with_reducible first | exact HB.out | apply zG | apply zA | apply zF | refine zH ?_ GE112.out) | exact HB.out)⟩
 ·
  rw [if_neg c3] at H
  have c3b0 : (t113 == 0) = false := beq_eq_false_iff_ne.mpr c3
  have c3b1 : (t113 != 0) = true := bne_iff_ne.mpr c3
  obtain rfl := Option.some.inj H
  go_enter Try.func90, Try.ntmps90
  go_wp2_with (first | ((with_reducible refine zQ (N := 1) rfl ?_); (try (refine gate_guard (by rfl) ?_; dsimp only)); refine zO ?hg (N := 1) ?hd (cs := #[.int .i64 a0_0, .int .i64 a0_1, .int .i64 a0_2, .int .i64 a0_3, .slice A0_4 l0_4.length c0_4]) (t := 32) ?hr ?_; (case hd => rfl); (case hg => rfl); (case hr => first | (go_simp; done) | (go_simp; rfl)); intro gb112 hg w14 hbox hb; have n0_ := zC.mk (zL (by repeat (first | (with_reducible first | exact HB.out | apply zG | apply zA | apply zF) | exact HB.out)) hb); have n1_ := zC.mk (hbox); have n2_ := zC.mk ((by rw [hg]; exact (zM (by repeat (first | (with_reducible first | exact HB.out | apply zG | apply zA | apply zF) | exact HB.out))) : w.heap.size ≤ gb112)); have n3_ := n2_; clear HB; have HB := n0_; have BK112 := n1_; have GW112 := n2_; have GE112 := n3_; clear n0_ n1_ n2_ n3_; clear hb hbox hg; have hcz15_0 : w14.cell? ⟨gb112, 0, none⟩ = some (.int .i64 a0_0) := zB BK112.out 0; have hcz15_1 : w14.cell? ⟨gb112, 1, none⟩ = some (.int .i64 a0_1) := zB BK112.out 1; have hcz15_2 : w14.cell? ⟨gb112, 2, none⟩ = some (.int .i64 a0_2) := zB BK112.out 2; have hcz15_3 : w14.cell? ⟨gb112, 3, none⟩ = some (.int .i64 a0_3) := zB BK112.out 3; have hcz15_4 : w14.cell? ⟨gb112, 4, none⟩ = some (.slice A0_4 l0_4.length c0_4) := zB BK112.out 4) | ((with_reducible refine zP (f := 99) rfl ?_); refine zX (some 7) rfl rfl Try.func99 (by kernel_rfl) rfl #[.int .i64 a0_0, .agg #[.int .i64 a0_1, .int .i64 a0_2, .int .i64 a0_3]] rfl (by (try simp only [List.map_toArray, List.map_cons, List.map_nil]); first | done | rfl) ?_; (with_reducible refine (wL.calls a0_0 a0_1 a0_2 a0_3 t113 _ A2.out).mono ?_); rintro e w16 ⟨rfl, hb⟩; refine ⟨_, rfl, ?_⟩; have n0_ := zC.mk (zK (g := gb112) (o := .cells #[.int .i64 a0_0, .int .i64 a0_1, .int .i64 a0_2, .int .i64 a0_3, .slice A0_4 l0_4.length c0_4] 32 (0, 0)) (by (with_reducible repeat (first | refine zE ?_ _ | refine zI ?_ | refine zD ?_ _)); exact BK112.out) hb); have n1_ := zC.mk (zL (by repeat (first | (with_reducible first | exact HB.out | apply zG | apply zA | apply zF | refine zH ?_ GE112.out) | exact HB.out)) hb); clear BK112; clear HB; have BK112 := n0_; have HB := n1_; clear n0_ n1_; (try clear hb)))
  go_ret
  exact ⟨by first | rfl | (simp [*, errW_none, errW_some] <;> rfl), by repeat (first | (with_reducible first | exact HB.out | apply zG | apply zA | apply zF | refine zH ?_ GE112.out) | exact HB.out)⟩
theorem yO.calls (k : Nat) (a0_0 : Int) (a0_1 : Int) (a0_2 : Int) (r : List (S50)) (w : World) (h : yO.f k a0_0 a0_1 a0_2 = some r) :
  Calls Try.prog 63 #[.agg #[.int .i64 a0_0, .int .i64 a0_1, .int .i64 a0_2]] w fun e w' => ∃ v0_ : Value, e = .returned (v0_) ∧ Kd.R k50 50 w' w.heap.size (fun _ => True) v0_ r ∧ Below w.heap.size w w' := by
 have hu30 := Try.underlying30
 have hu50 := Try.underlying50
 have HB := zC.mk (Below.refl w.heap.size w)
 have H : (yO.l0 k (([] : List (S50))) 0 a0_0 a0_1 a0_2) = some r := h
 clear h
 obtain ⟨y116, hy116⟩ : ∃ y_ : List (S50), y_ = (([] : List (S50))) := ⟨_, rfl⟩
 replace H : (yO.l0 k y116 0 a0_0 a0_1 a0_2) = some r := by first | (rw [hy116]; with_reducible exact H) | (have H2_ := (Option.bind_some _ _).symm.trans H; rw [hy116]; with_reducible exact H2_) | (have H2_ := (Option.bind_some _ _).symm.trans H; with_reducible exact H2_) | with_reducible exact H | (rw [hy116]; exact H) | exact H
 have Ny116 := zC.mk hy116
 clear hy116
 have H' := zC.mk H
 clear H
 go_enter Try.func63, Try.ntmps63
 go_wp2_with (first | ((with_reducible refine zQ (N := 1) rfl ?_); refine zO ?hg (N := 1) ?hd (cs := #[.int .i64 a0_0, .int .i64 a0_1, .int .i64 a0_2]) (t := 30) ?hr ?_; (case hd => rfl); (case hg => rfl); (case hr => first | (go_simp; done) | (go_simp; rfl)); intro gb115 hg w2 hbox hb; have n0_ := zC.mk (zL (by repeat (first | (with_reducible first | exact HB.out | apply zG | apply zA | apply zF) | exact HB.out)) hb); have n1_ := zC.mk (hbox); have n2_ := zC.mk ((by rw [hg]; exact (zM (by repeat (first | (with_reducible first | exact HB.out | apply zG | apply zA | apply zF) | exact HB.out))) : w.heap.size ≤ gb115)); have n3_ := n2_; clear HB; have HB := n0_; have BK115 := n1_; have GW115 := n2_; have GE115 := n3_; clear n0_ n1_ n2_ n3_; clear hb hbox hg) | ((with_reducible refine zQ (N := 6) rfl ?_); refine Kd.R_lit k50 _ 50 ?hg (N := 6) ?hd (xs := ([] : List (S50))) (inner := []) (ok := fun _ => True) (okp := fun _ => True) ?hr ?hp (fun _ hk => hk) trivial (Below.refl _ _) (Nat.le_refl _) (by simp) ?_; (case hd => rfl); (case hg => rfl); (case hr => first | (go_simp; done) | (go_simp; rfl)); (case hp => exact (Reps.none _ _)); intro v117 w3 ho4 hb hg_ hnew_; clear hg_ hnew_; (first | rw [← Ny116.out] at ho4 | (simp only [Int.reduceToNat] at ho4; rw [← Ny116.out] at ho4)); have n0_ := zC.mk (Kd.R_lower ho4 (zM (by repeat (first | (with_reducible first | exact HB.out | apply zG | apply zA | apply zF | refine zH ?_ GE115.out) | exact HB.out)))); have n1_ := zC.mk (zK (g := gb115) (o := .cells #[.int .i64 a0_0, .int .i64 a0_1, .int .i64 a0_2] 30 (0, 0)) (by (with_reducible repeat (first | refine zE ?_ _ | refine zI ?_ | refine zD ?_ _)); exact BK115.out) hb); have n2_ := zC.mk (zL (by repeat (first | (with_reducible first | exact HB.out | apply zG | apply zA | apply zF | refine zH ?_ GE115.out) | exact HB.out)) hb); clear BK115; clear HB; have HO118 := n0_; have BK115 := n1_; have HB := n2_; clear n0_ n1_ n2_; clear hb ho4))
 go_loopg [3, 4] k (fun kq v3 v4 w' => ∃ (x3_1 : List (S50)) (x4_1 : Int), v4 = .int .i64 x4_1 ∧ zC (yO.l0 kq x3_1 x4_1 a0_0 a0_1 a0_2 = some r) ∧ zC (kq ≤ k) ∧ zC (Kd.R k50 50 w' w.heap.size (fun _ => True) v3 x3_1) ∧ zC (w'.heap[gb115]? = some (.cells #[.int .i64 a0_0, .int .i64 a0_1, .int .i64 a0_2] 30 (0, 0))) ∧ zC (Below w.heap.size w w'))
 case atStart => exact ⟨(y116), (0), (by first | rfl | (simp; done) | (simp [*]; done)), H', ⟨Nat.le_refl _⟩, ⟨by (with_reducible repeat (first | apply Kd.R_alloc | apply Kd.R_drewN | apply Kd.R_drew)); exact HO118.out⟩, ⟨by (with_reducible repeat (first | refine zE ?_ _ | refine zI ?_ | refine zD ?_ _)); exact BK115.out⟩, ⟨by repeat (first | (with_reducible first | exact HB.out | apply zG | apply zA | apply zF | refine zH ?_ GE115.out) | exact HB.out)⟩⟩
 case round =>
  clear H'
  try clear p2
  obtain ⟨x3_1, x4_1, rfl, HA, HK1, HO_3, BK115, HB⟩ := hrel
  cases gk with
  | zero => exact absurd HA.out (by simp [yO.l0])
  | succ k1 =>
   have H := HA.out
   clear HA
   simp only [yO.l0] at H
   by_cases c5 : x4_1 < a0_0
   ·
    rw [if_pos c5] at H
    have c5b0 : decide (x4_1 < a0_0) = true := decide_eq_true c5
    clear c5
    have H' := zC.mk H
    clear H
    have hcz6_0 : wr.cell? ⟨gb115, 0, none⟩ = some (.int .i64 a0_0) := zB BK115.out 0
    have hcz6_1 : wr.cell? ⟨gb115, 1, none⟩ = some (.int .i64 a0_1) := zB BK115.out 1
    have hcz6_2 : wr.cell? ⟨gb115, 2, none⟩ = some (.int .i64 a0_2) := zB BK115.out 2
    go_wp2
    go_loopg [3, 5] k1 (fun kq v3 v5 w' => ∃ (x3_2 : List (S50)) (x5_2 : Int), v5 = .int .i64 x5_2 ∧ zC (yO.l1 kq x3_2 x4_1 x5_2 a0_0 a0_1 a0_2 = some r) ∧ zC (kq ≤ k1) ∧ zC (Kd.R k50 50 w' w.heap.size (fun _ => True) v3 x3_2) ∧ zC (w'.heap[gb115]? = some (.cells #[.int .i64 a0_0, .int .i64 a0_1, .int .i64 a0_2] 30 (0, 0))) ∧ zC (Below w.heap.size w w'))
    case atStart => exact ⟨(x3_1), (0), (by first | rfl | (simp; done) | (simp [*]; done)), H', ⟨Nat.le_refl _⟩, ⟨by (with_reducible repeat (first | apply Kd.R_alloc | apply Kd.R_drewN | apply Kd.R_drew)); exact HO_3.out⟩, ⟨by (with_reducible repeat (first | refine zE ?_ _ | refine zI ?_ | refine zD ?_ _)); exact BK115.out⟩, ⟨by repeat (first | (with_reducible first | exact HB.out | apply zG | apply zA | apply zF | refine zH ?_ GE115.out) | exact HB.out)⟩⟩
    case round =>
     clear H'
     try clear p2
     try clear c5
     try clear c5b0
     try clear c6
     try clear hcz6_0
     try clear hcz6_1
     try clear hcz6_2
     try clear hfz6_0
     try clear hfz6_1
     try clear hfz6_2
     try clear p2
     obtain ⟨x3_2, x5_2, rfl, HA, HK2, HO_3, BK115, HB⟩ := hrel
     cases gk with
     | zero => exact absurd HA.out (by simp [yO.l1])
     | succ k2 =>
      have H := HA.out
      clear HA
      simp only [yO.l1] at H
      by_cases c7 : x5_2 < a0_2
      ·
       rw [if_pos c7] at H
       have c7b0 : decide (x5_2 < a0_2) = true := decide_eq_true c7
       clear c7
       by_cases c8 : x3_2.length < 8796093022208
       ·
        rw [if_pos c8] at H
        have LMc8 := zC.mk c8
        clear c8
        obtain ⟨y119, hy119⟩ : ∃ y_ : List (S50), y_ = (x3_2 ++ [(⟨x4_1, x5_2⟩ : S50)]) := ⟨_, rfl⟩
        replace H : (yO.l1 k2 y119 x4_1 (wrap64 (x5_2 + 1)) a0_0 a0_1 a0_2) = some r := by first | (rw [hy119]; with_reducible exact H) | (have H2_ := (Option.bind_some _ _).symm.trans H; rw [hy119]; with_reducible exact H2_) | (have H2_ := (Option.bind_some _ _).symm.trans H; with_reducible exact H2_) | with_reducible exact H | (rw [hy119]; exact H) | exact H
        have Ny119 := zC.mk hy119
        clear hy119
        have H' := zC.mk H
        clear H
        have hcz9_0 : wr.cell? ⟨gb115, 0, none⟩ = some (.int .i64 a0_0) := zB BK115.out 0
        have hcz9_1 : wr.cell? ⟨gb115, 1, none⟩ = some (.int .i64 a0_1) := zB BK115.out 1
        have hcz9_2 : wr.cell? ⟨gb115, 2, none⟩ = some (.int .i64 a0_2) := zB BK115.out 2
        go_wp2_with (first | ((with_reducible refine gate_builtin (b := .append) (xs := #[.tmp 19, .tmp 23]) rfl ?_); at_builtin; refine Kd.R_append k50 (w0 := w) w.heap.size rfl (.tmp 19) (.tmp 23) 92 50 (.agg #[(.int .i64 0), (.int .i64 0)]) 16 rfl Try.underlying92 info50 rfl (by decide) (by omega) u3 x3_2 (⟨x4_1, x5_2⟩ : S50) [.int .i64 x4_1, .int .i64 x5_2] (fun _ => True) (fun _ => False) rfl rfl ?aP (fun _ hk => hk.elim) ?aF ?aO ?aB ?aS ?aL ?_; (case aP => exact k50_mkM _ _ _ (⟨x4_1, x5_2⟩ : S50)); (case aB => exact (by repeat (first | (with_reducible first | exact HB.out | apply zG | apply zA | apply zF | refine zH ?_ GE115.out) | exact HB.out))); (case aF => exact (fun _ _ => trivial)); (case aO => exact (by (with_reducible repeat (first | apply Kd.R_alloc | apply Kd.R_drewN | apply Kd.R_drew)); exact HO_3.out)); (case aS => exact (zM (by repeat (first | (with_reducible first | exact HB.out | apply zG | apply zA | apply zF | refine zH ?_ GE115.out) | exact HB.out)))); (case aL => have := LMc8.out; omega); intro v120 w10 ho hb hg hat; rw [← Ny119.out] at ho; have n0_ := zC.mk (blk_grown (g := gb115) (o := .cells #[.int .i64 a0_0, .int .i64 a0_1, .int .i64 a0_2] 30 (0, 0)) (by (with_reducible repeat (first | refine zE ?_ _ | refine zI ?_ | refine zD ?_ _)); exact BK115.out) hg (Kd.R_ne HO_3.out BK115.out (by decide))); have n1_ := zC.mk (hb); have n2_ := zC.mk (ho); clear BK115; clear HB; clear HO_3; have BK115 := n0_; have HB := n1_; have HO121 := n2_; clear n0_ n1_ n2_; clear ho hb hg hat))
        go_roundg k2
        case measure => have := HK1.out; have := HK2.out; omega
        case rel => exact ⟨(y119), (wrap64 (x5_2 + 1)), (by first | rfl | (simp; done) | (simp [*]; done)), H', ⟨by have := HK1.out; have := HK2.out; omega⟩, ⟨by (with_reducible repeat (first | apply Kd.R_alloc | apply Kd.R_drewN | apply Kd.R_drew)); exact HO121.out⟩, ⟨by (with_reducible repeat (first | refine zE ?_ _ | refine zI ?_ | refine zD ?_ _)); exact BK115.out⟩, ⟨by repeat (first | (with_reducible first | exact HB.out | apply zG | apply zA | apply zF | refine zH ?_ GE115.out) | exact HB.out)⟩⟩
       ·
        rw [if_neg c8] at H
        exact absurd H (by simp)
      ·
       rw [if_neg c7] at H
       have c7b0 : decide (x5_2 < a0_2) = false := decide_eq_false c7
       clear c7
       have H' := zC.mk H
       clear H
       have hcz11_0 : wr.cell? ⟨gb115, 0, none⟩ = some (.int .i64 a0_0) := zB BK115.out 0
       have hcz11_1 : wr.cell? ⟨gb115, 1, none⟩ = some (.int .i64 a0_1) := zB BK115.out 1
       have hcz11_2 : wr.cell? ⟨gb115, 2, none⟩ = some (.int .i64 a0_2) := zB BK115.out 2
       go_wp2
       go_roundg k2
       case measure => have := HK1.out; have := HK2.out; omega
       case rel => exact ⟨(x3_2), (wrap64 (x4_1 + 1)), (by first | rfl | (simp; done) | (simp [*]; done)), H', ⟨by have := HK1.out; have := HK2.out; omega⟩, ⟨by (with_reducible repeat (first | apply Kd.R_alloc | apply Kd.R_drewN | apply Kd.R_drew)); exact HO_3.out⟩, ⟨by (with_reducible repeat (first | refine zE ?_ _ | refine zI ?_ | refine zD ?_ _)); exact BK115.out⟩, ⟨by repeat (first | (with_reducible first | exact HB.out | apply zG | apply zA | apply zF | refine zH ?_ GE115.out) | exact HB.out)⟩⟩
   ·
    rw [if_neg c5] at H
    have c5b0 : decide (x4_1 < a0_0) = false := decide_eq_false c5
    clear c5
    obtain rfl := Option.some.inj H
    have hcz12_0 : wr.cell? ⟨gb115, 0, none⟩ = some (.int .i64 a0_0) := zB BK115.out 0
    have hcz12_1 : wr.cell? ⟨gb115, 1, none⟩ = some (.int .i64 a0_1) := zB BK115.out 1
    have hcz12_2 : wr.cell? ⟨gb115, 2, none⟩ = some (.int .i64 a0_2) := zB BK115.out 2
    go_wp2
    go_ret
    exact ⟨_, by first | rfl | (simp [*, errW_none, errW_some] <;> rfl), by (with_reducible repeat (first | apply Kd.R_alloc | apply Kd.R_drewN | apply Kd.R_drew)); exact HO_3.out, by repeat (first | (with_reducible first | exact HB.out | apply zG | apply zA | apply zF | refine zH ?_ GE115.out) | exact HB.out)⟩
theorem wP.calls (a0_0 : Int) (a0_1 : Int) (a0_2 : Int) (r : List (S50)) (w : World) (h : wP.f a0_0 a0_1 a0_2 = some r) :
  Calls Try.prog 127 #[.agg #[.int .i64 a0_0, .int .i64 a0_1, .int .i64 a0_2]] w fun e w' => ∃ v0_ : Value, e = .returned (v0_) ∧ Kd.R k50 50 w' w.heap.size (fun _ => True) v0_ r ∧ Below w.heap.size w w' := by
 have hu30 := Try.underlying30
 have hu50 := Try.underlying50
 have HB := zC.mk (Below.refl w.heap.size w)
 have H : (some (([(⟨a0_0, 0⟩ : S50), (⟨a0_1, a0_2⟩ : S50)] : List (S50)))) = some r := h
 clear h
 obtain ⟨y123, hy123⟩ : ∃ y_ : List (S50), y_ = (([(⟨a0_0, 0⟩ : S50), (⟨a0_1, a0_2⟩ : S50)] : List (S50))) := ⟨_, rfl⟩
 replace H : (some y123) = some r := by first | (rw [hy123]; with_reducible exact H) | (have H2_ := (Option.bind_some _ _).symm.trans H; rw [hy123]; with_reducible exact H2_) | (have H2_ := (Option.bind_some _ _).symm.trans H; with_reducible exact H2_) | with_reducible exact H | (rw [hy123]; exact H) | exact H
 have Ny123 := zC.mk hy123
 clear hy123
 obtain rfl := Option.some.inj H
 go_enter Try.func127, Try.ntmps127
 go_wp2_with (first | ((with_reducible refine zQ (N := 1) rfl ?_); refine zO ?hg (N := 1) ?hd (cs := #[.int .i64 a0_0, .int .i64 a0_1, .int .i64 a0_2]) (t := 30) ?hr ?_; (case hd => rfl); (case hg => rfl); (case hr => first | (go_simp; done) | (go_simp; rfl)); intro gb122 hg w2 hbox hb; have n0_ := zC.mk (zL (by repeat (first | (with_reducible first | exact HB.out | apply zG | apply zA | apply zF) | exact HB.out)) hb); have n1_ := zC.mk (hbox); have n2_ := zC.mk ((by rw [hg]; exact (zM (by repeat (first | (with_reducible first | exact HB.out | apply zG | apply zA | apply zF) | exact HB.out))) : w.heap.size ≤ gb122)); have n3_ := n2_; clear HB; have HB := n0_; have BK122 := n1_; have GW122 := n2_; have GE122 := n3_; clear n0_ n1_ n2_ n3_; clear hb hbox hg; have hcz3_0 : w2.cell? ⟨gb122, 0, none⟩ = some (.int .i64 a0_0) := zB BK122.out 0; have hcz3_1 : w2.cell? ⟨gb122, 1, none⟩ = some (.int .i64 a0_1) := zB BK122.out 1; have hcz3_2 : w2.cell? ⟨gb122, 2, none⟩ = some (.int .i64 a0_2) := zB BK122.out 2; have hfz3_0 := zJ BK122.out 0; have hfz3_1 := zJ BK122.out 1; have hfz3_2 := zJ BK122.out 2) | ((with_reducible refine zQ (N := 11) rfl ?_); refine Kd.R_lit k50 _ 50 ?hg (N := 11) ?hd (xs := ([(⟨a0_0, 0⟩ : S50), (⟨a0_1, a0_2⟩ : S50)] : List (S50))) (inner := [.int .i64 a0_0, .int .i64 0, .int .i64 a0_1, .int .i64 a0_2]) (ok := fun _ => True) (okp := fun _ => True) ?hr ?hp (fun _ hk => hk) trivial (Below.refl _ _) (Nat.le_refl _) (by simp) ?_; (case hd => rfl); (case hg => rfl); (case hr => first | (go_simp; done) | (go_simp; rfl)); (case hp => exact (Reps.c2 (show Kd.M k50 _ _ _ (⟨a0_0, 0⟩ : S50) [.int .i64 a0_0, .int .i64 0] from (k50_mkM _ _ _ (⟨a0_0, 0⟩ : S50) )) (Reps.c2 (show Kd.M k50 _ _ _ (⟨a0_1, a0_2⟩ : S50) [.int .i64 a0_1, .int .i64 a0_2] from (k50_mkM _ _ _ (⟨a0_1, a0_2⟩ : S50) )) (Reps.none _ _)))); intro v124 w4 ho5 hb hg_ hnew_; clear hg_ hnew_; (first | rw [← Ny123.out] at ho5 | (simp only [Int.reduceToNat] at ho5; rw [← Ny123.out] at ho5)); have n0_ := zC.mk (Kd.R_lower ho5 (zM (by repeat (first | (with_reducible first | exact HB.out | apply zG | apply zA | apply zF | refine zH ?_ GE122.out) | exact HB.out)))); have n1_ := zC.mk (zK (g := gb122) (o := .cells #[.int .i64 a0_0, .int .i64 a0_1, .int .i64 a0_2] 30 (0, 0)) (by (with_reducible repeat (first | refine zE ?_ _ | refine zI ?_ | refine zD ?_ _)); exact BK122.out) hb); have n2_ := zC.mk (zL (by repeat (first | (with_reducible first | exact HB.out | apply zG | apply zA | apply zF | refine zH ?_ GE122.out) | exact HB.out)) hb); clear BK122; clear HB; have HO125 := n0_; have BK122 := n1_; have HB := n2_; clear n0_ n1_ n2_; clear hb ho5))
 go_ret
 exact ⟨_, by first | rfl | (simp [*, errW_none, errW_some] <;> rfl), by (with_reducible repeat (first | apply Kd.R_alloc | apply Kd.R_drewN | apply Kd.R_drew)); exact HO125.out, by repeat (first | (with_reducible first | exact HB.out | apply zG | apply zA | apply zF | refine zH ?_ GE122.out) | exact HB.out)⟩
theorem wW.calls (a0_0 : Int) (a0_1 : Int) (a0_2 : Int) (a0_3 : Int) (a1_0 : Int) (a1_1 : Int) (r1 : Int) (r2 : Int) (w : World) (h : wW.f a0_0 a0_1 a0_2 a0_3 a1_0 a1_1 = some (r1, r2)) :
  Calls Try.prog 139 #[.agg #[.int .i64 a0_0, .int .i64 a0_1, .int .i64 a0_2, .int .i64 a0_3], .agg #[.int .i64 a1_0, .int .i64 a1_1]] w fun e w' => e = .returned (.agg #[.int .i64 r1, .int .i64 r2]) ∧ Below w.heap.size w w' := by
 have hu49 := Try.underlying49
 have hu50 := Try.underlying50
 have HB := zC.mk (Below.refl w.heap.size w)
 have H : (some (wrap64 ((wrap64 (a0_0 * a1_0)) + (wrap64 (a0_1 * a1_1))), wrap64 ((wrap64 (a0_2 * a1_0)) + (wrap64 (a0_3 * a1_1))))) = some (r1, r2) := h
 clear h
 simp only [Option.some.injEq, Prod.mk.injEq] at H
 obtain ⟨rfl, rfl⟩ := H
 go_enter Try.func139, Try.ntmps139
 go_wp2_with (first | ((with_reducible refine zQ (N := 2) rfl ?_); refine zO ?hg (N := 2) ?hd (cs := #[.int .i64 a0_0, .int .i64 a0_1, .int .i64 a0_2, .int .i64 a0_3]) (t := 49) ?hr ?_; (case hd => rfl); (case hg => rfl); (case hr => first | (go_simp; done) | (go_simp; rfl)); intro gb126 hg w3 hbox hb; have n0_ := zC.mk (zL (by repeat (first | (with_reducible first | exact HB.out | apply zG | apply zA | apply zF) | exact HB.out)) hb); have n1_ := zC.mk (hbox); have n2_ := zC.mk ((by rw [hg]; exact (zM (by repeat (first | (with_reducible first | exact HB.out | apply zG | apply zA | apply zF) | exact HB.out))) : w.heap.size ≤ gb126)); have n3_ := n2_; clear HB; have HB := n0_; have BK126 := n1_; have GW126 := n2_; have GE126 := n3_; clear n0_ n1_ n2_ n3_; clear hb hbox hg) | ((with_reducible refine zQ (N := 3) rfl ?_); refine zO ?hg (N := 3) ?hd (cs := #[.int .i64 a1_0, .int .i64 a1_1]) (t := 50) ?hr ?_; (case hd => rfl); (case hg => rfl); (case hr => first | (go_simp; done) | (go_simp; rfl)); intro gb127 hg w4 hbox hb; have n0_ := zC.mk (zK (g := gb126) (o := .cells #[.int .i64 a0_0, .int .i64 a0_1, .int .i64 a0_2, .int .i64 a0_3] 49 (0, 0)) (by (with_reducible repeat (first | refine zE ?_ _ | refine zI ?_ | refine zD ?_ _)); exact BK126.out) hb); have n1_ := zC.mk (zL (by repeat (first | (with_reducible first | exact HB.out | apply zG | apply zA | apply zF | refine zH ?_ GE126.out) | exact HB.out)) hb); have n2_ := zC.mk (hbox); have n3_ := zC.mk ((by rw [hg]; exact (zM (by repeat (first | (with_reducible first | exact HB.out | apply zG | apply zA | apply zF | refine zH ?_ GE126.out) | exact HB.out))) : w.heap.size ≤ gb127)); have n4_ := n3_; have n5_ := zC.mk ((by rw [hg]; exact Nat.ne_of_lt (zV (by (with_reducible repeat (first | refine zE ?_ _ | refine zI ?_ | refine zD ?_ _)); exact BK126.out)) : gb126 ≠ gb127)); have n6_ := zC.mk n5_.out.symm; clear BK126; clear HB; have BK126 := n0_; have HB := n1_; have BK127 := n2_; have GW127 := n3_; have GE127 := n4_; have NB126_127 := n5_; have NB127_126 := n6_; clear n0_ n1_ n2_ n3_ n4_ n5_ n6_; clear hb hbox hg) | ((with_reducible refine zQ (N := 4) rfl ?_); refine zO ?hg (N := 4) ?hd (cs := #[.int .i64 0, .int .i64 0]) (t := 50) ?hr ?_; (case hd => rfl); (case hg => rfl); (case hr => first | (go_simp; done) | (go_simp; rfl)); intro gb128 hg w5 hbox hb; have n0_ := zC.mk (zK (g := gb126) (o := .cells #[.int .i64 a0_0, .int .i64 a0_1, .int .i64 a0_2, .int .i64 a0_3] 49 (0, 0)) (by (with_reducible repeat (first | refine zE ?_ _ | refine zI ?_ | refine zD ?_ _)); exact BK126.out) hb); have n1_ := zC.mk (zK (g := gb127) (o := .cells #[.int .i64 a1_0, .int .i64 a1_1] 50 (0, 0)) (by (with_reducible repeat (first | refine zE ?_ _ | refine zI ?_ | refine zD ?_ _)); exact BK127.out) hb); have n2_ := zC.mk (zL (by repeat (first | (with_reducible first | exact HB.out | apply zG | apply zA | apply zF | refine zH ?_ GE126.out | refine zH ?_ GE127.out) | exact HB.out)) hb); have n3_ := zC.mk (hbox); have n4_ := zC.mk ((by rw [hg]; exact (zM (by repeat (first | (with_reducible first | exact HB.out | apply zG | apply zA | apply zF | refine zH ?_ GE126.out | refine zH ?_ GE127.out) | exact HB.out))) : w.heap.size ≤ gb128)); have n5_ := n4_; have n6_ := zC.mk ((by rw [hg]; exact Nat.ne_of_lt (zV (by (with_reducible repeat (first | refine zE ?_ _ | refine zI ?_ | refine zD ?_ _)); exact BK126.out)) : gb126 ≠ gb128)); have n7_ := zC.mk n6_.out.symm; have n8_ := zC.mk ((by rw [hg]; exact Nat.ne_of_lt (zV (by (with_reducible repeat (first | refine zE ?_ _ | refine zI ?_ | refine zD ?_ _)); exact BK127.out)) : gb127 ≠ gb128)); have n9_ := zC.mk n8_.out.symm; clear BK126; clear BK127; clear HB; have BK126 := n0_; have BK127 := n1_; have HB := n2_; have BK128 := n3_; have GW128 := n4_; have GE128 := n5_; have NB126_128 := n6_; have NB128_126 := n7_; have NB127_128 := n8_; have NB128_127 := n9_; clear n0_ n1_ n2_ n3_ n4_ n5_ n6_ n7_ n8_ n9_; clear hb hbox hg; have hnb6 := NB126_127.out; have hnc6 := NB127_126.out; have hnb7 := NB126_128.out; have hnc7 := NB128_126.out; have hcz8_0 : w5.cell? ⟨gb126, 0, none⟩ = some (.int .i64 a0_0) := zB BK126.out 0; have hcz8_1 : w5.cell? ⟨gb126, 1, none⟩ = some (.int .i64 a0_1) := zB BK126.out 1; have hcz8_2 : w5.cell? ⟨gb126, 2, none⟩ = some (.int .i64 a0_2) := zB BK126.out 2; have hcz8_3 : w5.cell? ⟨gb126, 3, none⟩ = some (.int .i64 a0_3) := zB BK126.out 3; have hfz8_0 := zJ BK126.out 0; have hfz8_1 := zJ BK126.out 1; have hfz8_2 := zJ BK126.out 2; have hfz8_3 := zJ BK126.out 3; have hnb9 := NB127_128.out; have hnc9 := NB128_127.out; have hcz10_0 : w5.cell? ⟨gb127, 0, none⟩ = some (.int .i64 a1_0) := zB BK127.out 0; have hcz10_1 : w5.cell? ⟨gb127, 1, none⟩ = some (.int .i64 a1_1) := zB BK127.out 1; have hfz10_0 := zJ BK127.out 0; have hfz10_1 := zJ BK127.out 1; have hcz11_0 : w5.cell? ⟨gb128, 0, none⟩ = some (.int .i64 0) := zB BK128.out 0; have hcz11_1 : w5.cell? ⟨gb128, 1, none⟩ = some (.int .i64 0) := zB BK128.out 1; have hfz11_0 := zJ BK128.out 0; have hfz11_1 := zJ BK128.out 1))
 refine bodyPost_ret (results_cell_row rfl _ _ gb128 50 #[.int .i64 (wrap64 ((wrap64 (a0_0 * a1_0)) + (wrap64 (a0_1 * a1_1)))), .int .i64 (wrap64 ((wrap64 (a0_2 * a1_0)) + (wrap64 (a0_3 * a1_1))))] (0, 0) _ rfl (by (with_reducible repeat (first | refine zE ?_ _ | refine zI ?_ | refine zD ?_ _)); refine zS (cs := #[.int .i64 (wrap64 ((wrap64 (a0_0 * a1_0)) + (wrap64 (a0_1 * a1_1)))), .int .i64 0]) ?_ 1 _ rfl; (with_reducible repeat (first | refine zE ?_ _ | refine zI ?_ | refine zD ?_ _)); refine zS (cs := #[.int .i64 0, .int .i64 0]) ?_ 0 _ rfl; (with_reducible repeat (first | refine zE ?_ _ | refine zI ?_ | refine zD ?_ _)); exact BK128.out) Try.underlying50 rfl (by kernel_rfl)) rfl ?_
 exact ⟨by first | rfl | (simp [*, errW_none, errW_some] <;> rfl), by repeat (first | (with_reducible first | exact HB.out | apply zG | apply zA | apply zF | refine zH ?_ GE126.out | refine zH ?_ GE127.out | refine zH ?_ GE128.out) | exact HB.out)⟩
theorem wX.calls (a0_0 : Int) (a0_1 : Int) (a1_0 : Int) (a1_1 : Int) (r1 : Int) (r2 : Int) (w : World) (h : wX.f a0_0 a0_1 a1_0 a1_1 = some (r1, r2)) :
  Calls Try.prog 140 #[.agg #[.int .i64 a0_0, .int .i64 a0_1], .agg #[.int .i64 a1_0, .int .i64 a1_1]] w fun e w' => e = .returned (.agg #[.int .i64 r1, .int .i64 r2]) ∧ Below w.heap.size w w' := by
 have hu50 := Try.underlying50
 have HB := zC.mk (Below.refl w.heap.size w)
 have H : (some (wrap64 (a0_0 + a1_0), wrap64 (a0_1 + a1_1))) = some (r1, r2) := h
 clear h
 simp only [Option.some.injEq, Prod.mk.injEq] at H
 obtain ⟨rfl, rfl⟩ := H
 go_enter Try.func140, Try.ntmps140
 go_wp2_with (first | ((with_reducible refine zQ (N := 2) rfl ?_); refine zO ?hg (N := 2) ?hd (cs := #[.int .i64 a0_0, .int .i64 a0_1]) (t := 50) ?hr ?_; (case hd => rfl); (case hg => rfl); (case hr => first | (go_simp; done) | (go_simp; rfl)); intro gb129 hg w3 hbox hb; have n0_ := zC.mk (zL (by repeat (first | (with_reducible first | exact HB.out | apply zG | apply zA | apply zF) | exact HB.out)) hb); have n1_ := zC.mk (hbox); have n2_ := zC.mk ((by rw [hg]; exact (zM (by repeat (first | (with_reducible first | exact HB.out | apply zG | apply zA | apply zF) | exact HB.out))) : w.heap.size ≤ gb129)); have n3_ := n2_; clear HB; have HB := n0_; have BK129 := n1_; have GW129 := n2_; have GE129 := n3_; clear n0_ n1_ n2_ n3_; clear hb hbox hg) | ((with_reducible refine zQ (N := 3) rfl ?_); refine zO ?hg (N := 3) ?hd (cs := #[.int .i64 a1_0, .int .i64 a1_1]) (t := 50) ?hr ?_; (case hd => rfl); (case hg => rfl); (case hr => first | (go_simp; done) | (go_simp; rfl)); intro gb130 hg w4 hbox hb; have n0_ := zC.mk (zK (g := gb129) (o := .cells #[.int .i64 a0_0, .int .i64 a0_1] 50 (0, 0)) (by (with_reducible repeat (first | refine zE ?_ _ | refine zI ?_ | refine zD ?_ _)); exact BK129.out) hb); have n1_ := zC.mk (zL (by repeat (first | (with_reducible first | exact HB.out | apply zG | apply zA | apply zF | refine zH ?_ GE129.out) | exact HB.out)) hb); have n2_ := zC.mk (hbox); have n3_ := zC.mk ((by rw [hg]; exact (zM (by repeat (first | (with_reducible first | exact HB.out | apply zG | apply zA | apply zF | refine zH ?_ GE129.out) | exact HB.out))) : w.heap.size ≤ gb130)); have n4_ := n3_; have n5_ := zC.mk ((by rw [hg]; exact Nat.ne_of_lt (zV (by (with_reducible repeat (first | refine zE ?_ _ | refine zI ?_ | refine zD ?_ _)); exact BK129.out)) : gb129 ≠ gb130)); have n6_ := zC.mk n5_.out.symm; clear BK129; clear HB; have BK129 := n0_; have HB := n1_; have BK130 := n2_; have GW130 := n3_; have GE130 := n4_; have NB129_130 := n5_; have NB130_129 := n6_; clear n0_ n1_ n2_ n3_ n4_ n5_ n6_; clear hb hbox hg) | ((with_reducible refine zQ (N := 4) rfl ?_); refine zO ?hg (N := 4) ?hd (cs := #[.int .i64 0, .int .i64 0]) (t := 50) ?hr ?_; (case hd => rfl); (case hg => rfl); (case hr => first | (go_simp; done) | (go_simp; rfl)); intro gb131 hg w5 hbox hb; have n0_ := zC.mk (zK (g := gb129) (o := .cells #[.int .i64 a0_0, .int .i64 a0_1] 50 (0, 0)) (by (with_reducible repeat (first | refine zE ?_ _ | refine zI ?_ | refine zD ?_ _)); exact BK129.out) hb); have n1_ := zC.mk (zK (g := gb130) (o := .cells #[.int .i64 a1_0, .int .i64 a1_1] 50 (0, 0)) (by (with_reducible repeat (first | refine zE ?_ _ | refine zI ?_ | refine zD ?_ _)); exact BK130.out) hb); have n2_ := zC.mk (zL (by repeat (first | (with_reducible first | exact HB.out | apply zG | apply zA | apply zF | refine zH ?_ GE129.out | refine zH ?_ GE130.out) | exact HB.out)) hb); have n3_ := zC.mk (hbox); have n4_ := zC.mk ((by rw [hg]; exact (zM (by repeat (first | (with_reducible first | exact HB.out | apply zG | apply zA | apply zF | refine zH ?_ GE129.out | refine zH ?_ GE130.out) | exact HB.out))) : w.heap.size ≤ gb131)); have n5_ := n4_; have n6_ := zC.mk ((by rw [hg]; exact Nat.ne_of_lt (zV (by (with_reducible repeat (first | refine zE ?_ _ | refine zI ?_ | refine zD ?_ _)); exact BK129.out)) : gb129 ≠ gb131)); have n7_ := zC.mk n6_.out.symm; have n8_ := zC.mk ((by rw [hg]; exact Nat.ne_of_lt (zV (by (with_reducible repeat (first | refine zE ?_ _ | refine zI ?_ | refine zD ?_ _)); exact BK130.out)) : gb130 ≠ gb131)); have n9_ := zC.mk n8_.out.symm; clear BK129; clear BK130; clear HB; have BK129 := n0_; have BK130 := n1_; have HB := n2_; have BK131 := n3_; have GW131 := n4_; have GE131 := n5_; have NB129_131 := n6_; have NB131_129 := n7_; have NB130_131 := n8_; have NB131_130 := n9_; clear n0_ n1_ n2_ n3_ n4_ n5_ n6_ n7_ n8_ n9_; clear hb hbox hg; have hnb6 := NB129_130.out; have hnc6 := NB130_129.out; have hnb7 := NB129_131.out; have hnc7 := NB131_129.out; have hcz8_0 : w5.cell? ⟨gb129, 0, none⟩ = some (.int .i64 a0_0) := zB BK129.out 0; have hcz8_1 : w5.cell? ⟨gb129, 1, none⟩ = some (.int .i64 a0_1) := zB BK129.out 1; have hfz8_0 := zJ BK129.out 0; have hfz8_1 := zJ BK129.out 1; have hnb9 := NB130_131.out; have hnc9 := NB131_130.out; have hcz10_0 : w5.cell? ⟨gb130, 0, none⟩ = some (.int .i64 a1_0) := zB BK130.out 0; have hcz10_1 : w5.cell? ⟨gb130, 1, none⟩ = some (.int .i64 a1_1) := zB BK130.out 1; have hfz10_0 := zJ BK130.out 0; have hfz10_1 := zJ BK130.out 1; have hcz11_0 : w5.cell? ⟨gb131, 0, none⟩ = some (.int .i64 0) := zB BK131.out 0; have hcz11_1 : w5.cell? ⟨gb131, 1, none⟩ = some (.int .i64 0) := zB BK131.out 1; have hfz11_0 := zJ BK131.out 0; have hfz11_1 := zJ BK131.out 1))
 refine bodyPost_ret (results_cell_row rfl _ _ gb131 50 #[.int .i64 (wrap64 (a0_0 + a1_0)), .int .i64 (wrap64 (a0_1 + a1_1))] (0, 0) _ rfl (by (with_reducible repeat (first | refine zE ?_ _ | refine zI ?_ | refine zD ?_ _)); refine zS (cs := #[.int .i64 (wrap64 (a0_0 + a1_0)), .int .i64 0]) ?_ 1 _ rfl; (with_reducible repeat (first | refine zE ?_ _ | refine zI ?_ | refine zD ?_ _)); refine zS (cs := #[.int .i64 0, .int .i64 0]) ?_ 0 _ rfl; (with_reducible repeat (first | refine zE ?_ _ | refine zI ?_ | refine zD ?_ _)); exact BK131.out) Try.underlying50 rfl (by kernel_rfl)) rfl ?_
 exact ⟨by first | rfl | (simp [*, errW_none, errW_some] <;> rfl), by repeat (first | (with_reducible first | exact HB.out | apply zG | apply zA | apply zF | refine zH ?_ GE129.out | refine zH ?_ GE130.out | refine zH ?_ GE131.out) | exact HB.out)⟩
def xZ.T1 : Bool × List (List Nat × List Nat) := (true, [([], []), ([0], [0]), ([], []), ([1, 2], [1, 2]), ([], []), ([4], [4]), ([3, 5, 3], [3, 5]), ([6, 6, 0, 1, 2, 3, 4, 5, 6], [6])])
def xZ.B1 : List Nat := [0, 1, 0, 7, 0, 16, 63, 127]
theorem xZ.tab1 : rtab .any (opsOf Try.f104 1) = xZ.T1 := by kernel_rfl
theorem xZ.bits1 : waitsOk xZ.T1.2 xZ.B1 = true := by kernel_rfl
theorem xZ.calls (a0_0 : Int) (a0_1 : Int) (a0_2 : Int) (a0_3 : Int) (a0_4 : Int) (a0_5 : Int) (a1_0 : Int) (a1_1 : Int) (r1 : Int) (r2 : Int) (w : World) (h : xZ.f a0_0 a0_1 a0_2 a0_3 a0_4 a0_5 a1_0 a1_1 = some (r1, r2)) :
  Calls Try.prog 104 #[.agg #[.int .i64 a0_0, .int .i64 a0_1, .int .i64 a0_2, .int .i64 a0_3, .int .i64 a0_4, .int .i64 a0_5], .agg #[.int .i64 a1_0, .int .i64 a1_1]] w fun e w' => e = .returned (.agg #[.int .i64 r1, .int .i64 r2]) ∧ Below w.heap.size w w' := by
 have hu52 := Try.underlying52
 have hu50 := Try.underlying50
 have hu49 := Try.underlying49
 have HB := zC.mk (Below.refl w.heap.size w)
 have H : ((wW.f a0_0 a0_1 a0_2 a0_3 a1_0 a1_1).bind fun bt135 => ((wX.f bt135.1 bt135.2 a0_4 a0_5).bind fun bt137 => (some (bt137.1, bt137.2)))) = some (r1, r2) := h
 clear h
 replace H := Option.bind_eq_some_iff.mp H
 obtain ⟨⟨t135, t136⟩, A30, H⟩ := H
 replace H : ((wX.f t135 t136 a0_4 a0_5).bind fun bt137 => (some (bt137.1, bt137.2))) = some (r1, r2) := H
 have A3 := zC.mk A30
 clear A30
 replace H := Option.bind_eq_some_iff.mp H
 obtain ⟨⟨t137, t138⟩, A40, H⟩ := H
 replace H : (some (t137, t138)) = some (r1, r2) := H
 have A4 := zC.mk A40
 clear A40
 simp only [Option.some.injEq, Prod.mk.injEq] at H
 obtain ⟨rfl, rfl⟩ := H
 go_enter Try.func104, Try.ntmps104
 try go_wp2_with (first | ((with_reducible refine zQ (N := 2) rfl ?_); refine zO ?hg (N := 2) ?hd (cs := #[.int .i64 a0_0, .int .i64 a0_1, .int .i64 a0_2, .int .i64 a0_3, .int .i64 a0_4, .int .i64 a0_5]) (t := 52) ?hr ?_; (case hd => rfl); (case hg => rfl); (case hr => first | (go_simp; done) | (go_simp; rfl)); intro gb132 hg w5 hbox hb; have n0_ := zC.mk (zL (by repeat (first | (with_reducible first | exact HB.out | apply zG | apply zA | apply zF) | exact HB.out)) hb); have n1_ := zC.mk (hbox); have n2_ := zC.mk ((by rw [hg]; exact (zM (by repeat (first | (with_reducible first | exact HB.out | apply zG | apply zA | apply zF) | exact HB.out))) : w.heap.size ≤ gb132)); have n3_ := n2_; clear HB; have HB := n0_; have BK132 := n1_; have GW132 := n2_; have GE132 := n3_; clear n0_ n1_ n2_ n3_; clear hb hbox hg) | ((with_reducible refine zQ (N := 3) rfl ?_); refine zO ?hg (N := 3) ?hd (cs := #[.int .i64 a1_0, .int .i64 a1_1]) (t := 50) ?hr ?_; (case hd => rfl); (case hg => rfl); (case hr => first | (go_simp; done) | (go_simp; rfl)); intro gb133 hg w6 hbox hb; have n0_ := zC.mk (zK (g := gb132) (o := .cells #[.int .i64 a0_0, .int .i64 a0_1, .int .i64 a0_2, .int .i64 a0_3, .int .i64 a0_4, .int .i64 a0_5] 52 (0, 0)) (by (with_reducible repeat (first | refine zE ?_ _ | refine zI ?_ | refine zD ?_ _)); exact BK132.out) hb); have n1_ := zC.mk (zL (by repeat (first | (with_reducible first | exact HB.out | apply zG | apply zA | apply zF | refine zH ?_ GE132.out) | exact HB.out)) hb); have n2_ := zC.mk (hbox); have n3_ := zC.mk ((by rw [hg]; exact (zM (by repeat (first | (with_reducible first | exact HB.out | apply zG | apply zA | apply zF | refine zH ?_ GE132.out) | exact HB.out))) : w.heap.size ≤ gb133)); have n4_ := n3_; have n5_ := zC.mk ((by rw [hg]; exact Nat.ne_of_lt (zV (by (with_reducible repeat (first | refine zE ?_ _ | refine zI ?_ | refine zD ?_ _)); exact BK132.out)) : gb132 ≠ gb133)); have n6_ := zC.mk n5_.out.symm; clear BK132; clear HB; have BK132 := n0_; have HB := n1_; have BK133 := n2_; have GW133 := n3_; have GE133 := n4_; have NB132_133 := n5_; have NB133_132 := n6_; clear n0_ n1_ n2_ n3_ n4_ n5_ n6_; clear hb hbox hg) | ((with_reducible refine zQ (N := 4) rfl ?_); refine zO ?hg (N := 4) ?hd (cs := #[.int .i64 0, .int .i64 0]) (t := 50) ?hr ?_; (case hd => rfl); (case hg => rfl); (case hr => first | (go_simp; done) | (go_simp; rfl)); intro gb134 hg w7 hbox hb; have n0_ := zC.mk (zK (g := gb132) (o := .cells #[.int .i64 a0_0, .int .i64 a0_1, .int .i64 a0_2, .int .i64 a0_3, .int .i64 a0_4, .int .i64 a0_5] 52 (0, 0)) (by (with_reducible repeat (first | refine zE ?_ _ | refine zI ?_ | refine zD ?_ _)); exact BK132.out) hb); have n1_ := zC.mk (zK (g := gb133) (o := .cells #[.int .i64 a1_0, .int .i64 a1_1] 50 (0, 0)) (by (with_reducible repeat (first | refine zE ?_ _ | refine zI ?_ | refine zD ?_ _)); exact BK133.out) hb); have n2_ := zC.mk (zL (by repeat (first | (with_reducible first | exact HB.out | apply zG | apply zA | apply zF | refine zH ?_ GE132.out | refine zH ?_ GE133.out) | exact HB.out)) hb); have n3_ := zC.mk (hbox); have n4_ := zC.mk ((by rw [hg]; exact (zM (by repeat (first | (with_reducible first | exact HB.out | apply zG | apply zA | apply zF | refine zH ?_ GE132.out | refine zH ?_ GE133.out) | exact HB.out))) : w.heap.size ≤ gb134)); have n5_ := n4_; have n6_ := zC.mk ((by rw [hg]; exact Nat.ne_of_lt (zV (by (with_reducible repeat (first | refine zE ?_ _ | refine zI ?_ | refine zD ?_ _)); exact BK132.out)) : gb132 ≠ gb134)); have n7_ := zC.mk n6_.out.symm; have n8_ := zC.mk ((by rw [hg]; exact Nat.ne_of_lt (zV (by (with_reducible repeat (first | refine zE ?_ _ | refine zI ?_ | refine zD ?_ _)); exact BK133.out)) : gb133 ≠ gb134)); have n9_ := zC.mk n8_.out.symm; clear BK132; clear BK133; clear HB; have BK132 := n0_; have BK133 := n1_; have HB := n2_; have BK134 := n3_; have GW134 := n4_; have GE134 := n5_; have NB132_134 := n6_; have NB134_132 := n7_; have NB133_134 := n8_; have NB134_133 := n9_; clear n0_ n1_ n2_ n3_ n4_ n5_ n6_ n7_ n8_ n9_; clear hb hbox hg))
 have n0_ := zC.mk (zI BK132.out)
 have n1_ := zC.mk (zI BK133.out)
 have n2_ := zC.mk (zI BK134.out)
 have n3_ := zC.mk (zF HB.out)
 clear BK132
 clear BK133
 clear BK134
 clear HB
 have BK132 := n0_
 have BK133 := n1_
 have BK134 := n2_
 have HB := n3_
 clear n0_ n1_ n2_ n3_
 refine start_ (n := 8) (S := fun w' => w'.cell? ⟨gb132, 0, none⟩ = some (.int .i64 a0_0) ∧ w'.cell? ⟨gb132, 1, none⟩ = some (.int .i64 a0_1) ∧ w'.cell? ⟨gb132, 2, none⟩ = some (.int .i64 a0_2) ∧ w'.cell? ⟨gb132, 3, none⟩ = some (.int .i64 a0_3) ∧ w'.cell? ⟨gb132, 4, none⟩ = some (.int .i64 a0_4) ∧ w'.cell? ⟨gb132, 5, none⟩ = some (.int .i64 a0_5) ∧ w'.cell? ⟨gb133, 0, none⟩ = some (.int .i64 a1_0) ∧ w'.cell? ⟨gb133, 1, none⟩ = some (.int .i64 a1_1)) (ds := []) #[false, false, false, false, false, false, false, false] (by kernel_rfl) rfl rfl ⟨zB BK132.out 0, zB BK132.out 1, zB BK132.out 2, zB BK132.out 3, zB BK132.out 4, zB BK132.out 5, zB BK133.out 0, zB BK133.out 1⟩ (fun hHeld => ?_); refine yE xZ.tab1 xZ.bits1 (fun HT_ HW_ => ?_)
 generalize w7.drew = w8 at BK132 BK133 BK134 HB hHeld ⊢
 refine zR (i := 0) (N := some 5) (v := ?_) (a' := ?_) #[true, false, false, false, false, false, false, false] rfl rfl (zN HT_.out (by kernel_rfl)) (fun _ _ _ h => h) (Or.inl ⟨by rfl, ?_⟩) ?_ ?_
 rotate_left
 ·
  intro w'
  go_simp
  with_reducible rfl
 rotate_left
 ·
  go_simp
  rfl
 refine zR (i := 4) (N := some 9) (v := ?_) (a' := ?_) #[true, false, false, false, true, false, false, false] rfl rfl (zN HT_.out (by kernel_rfl)) (fun _ _ _ h => h) (Or.inl ⟨by rfl, ?_⟩) ?_ ?_
 rotate_left
 ·
  intro w'
  go_simp
  with_reducible rfl
 rotate_left
 ·
  go_simp
  rfl
 refine yC (i := 1) (N := some 6) (v := ?_) (a' := ?_) #[true, true, false, false, true, false, false, false] rfl rfl (zW HT_.out HW_.out (by kernel_rfl)) (fun _ _ _ h => h) (Or.inl ⟨by rfl, ?_⟩) hHeld ?_ ?_
 rotate_left
 ·
  rintro w' ⟨s0, s1, s2, s3, s4, s5, s6, s7⟩
  go_simp
  with_reducible rfl
 rotate_left
 ·
  go_simp
  rfl
 refine yC (i := 2) (N := some 7) (v := ?_) (a' := ?_) #[true, true, true, false, true, false, false, false] rfl rfl (zW HT_.out HW_.out (by kernel_rfl)) (fun _ _ _ h => h) (Or.inl ⟨by rfl, ?_⟩) hHeld ?_ ?_
 rotate_left
 ·
  rintro w' ⟨s0, s1, s2, s3, s4, s5, s6, s7⟩
  go_simp
  with_reducible rfl
 rotate_left
 ·
  go_simp
  rfl
 refine yC (i := 5) (N := some 10) (v := ?_) (a' := ?_) #[true, true, true, false, true, true, false, false] rfl rfl (zW HT_.out HW_.out (by kernel_rfl)) (fun _ _ _ h => h) (Or.inl ⟨by rfl, ?_⟩) hHeld ?_ ?_
 rotate_left
 ·
  rintro w' ⟨s0, s1, s2, s3, s4, s5, s6, s7⟩
  go_simp
  with_reducible rfl
 rotate_left
 ·
  go_simp
  rfl
 refine one_ (i := 3) (N := some 8) #[true, true, true, true, true, true, false, false] rfl rfl (yB HT_.out (by kernel_rfl)) (by decide) (fun K hK => ?_)
 refine yD Try.func139 (by kernel_rfl) rfl #[.agg #[.int .i64 a0_0, .int .i64 a0_1, .int .i64 a0_2, .int .i64 a0_3], .agg #[.int .i64 a1_0, .int .i64 a1_1]] (by rfl) rfl rfl (by (try simp only [List.map_toArray, List.map_cons, List.map_nil]); first | done | rfl) ?_
 with_reducible refine (wW.calls a0_0 a0_1 a0_2 a0_3 a1_0 a1_1 t135 t136 _ A3.out).mono ?_
 rintro e w9 ⟨rfl, hb⟩
 refine ⟨_, rfl, ?_⟩
 have n0_ := zC.mk (zK (g := gb132) (o := .cells #[.int .i64 a0_0, .int .i64 a0_1, .int .i64 a0_2, .int .i64 a0_3, .int .i64 a0_4, .int .i64 a0_5] 52 (0, 0)) (by (with_reducible repeat (first | refine zE ?_ _ | refine zI ?_ | refine zD ?_ _)); exact BK132.out) hb)
 have n1_ := zC.mk (zK (g := gb133) (o := .cells #[.int .i64 a1_0, .int .i64 a1_1] 50 (0, 0)) (by (with_reducible repeat (first | refine zE ?_ _ | refine zI ?_ | refine zD ?_ _)); exact BK133.out) hb)
 have n2_ := zC.mk (zK (g := gb134) (o := .cells #[.int .i64 0, .int .i64 0] 50 (0, 0)) (by (with_reducible repeat (first | refine zE ?_ _ | refine zI ?_ | refine zD ?_ _)); exact BK134.out) hb)
 have n3_ := zC.mk (zL (by repeat (first | (with_reducible first | exact HB.out | apply zG | apply zA | apply zF | refine zH ?_ GE132.out | refine zH ?_ GE133.out | refine zH ?_ GE134.out) | exact HB.out)) hb)
 clear BK132
 clear BK133
 clear BK134
 clear HB
 have BK132 := n0_
 have BK133 := n1_
 have BK134 := n2_
 have HB := n3_
 clear n0_ n1_ n2_ n3_
 (try clear hb)
 refine hK.out _ _ ⟨zB BK132.out 0, zB BK132.out 1, zB BK132.out 2, zB BK132.out 3, zB BK132.out 4, zB BK132.out 5, zB BK133.out 0, zB BK133.out 1⟩ (fun hHeld => ?_)
 clear hK K
 refine yA (a' := ?_) ?_ ?_
 rotate_left
 ·
  show Act.put _ (some 8) _ = _
  go_simp
  rfl
 refine one_ (i := 6) (N := some 11) #[true, true, true, true, true, true, true, false] rfl rfl (yB HT_.out (by kernel_rfl)) (by decide) (fun K hK => ?_)
 refine yD Try.func140 (by kernel_rfl) rfl #[.agg #[.int .i64 t135, .int .i64 t136], .agg #[.int .i64 a0_4, .int .i64 a0_5]] (by rfl) rfl rfl (by (try simp only [List.map_toArray, List.map_cons, List.map_nil]); first | done | rfl) ?_
 with_reducible refine (wX.calls t135 t136 a0_4 a0_5 t137 t138 _ A4.out).mono ?_
 rintro e w10 ⟨rfl, hb⟩
 refine ⟨_, rfl, ?_⟩
 have n0_ := zC.mk (zK (g := gb132) (o := .cells #[.int .i64 a0_0, .int .i64 a0_1, .int .i64 a0_2, .int .i64 a0_3, .int .i64 a0_4, .int .i64 a0_5] 52 (0, 0)) (by (with_reducible repeat (first | refine zE ?_ _ | refine zI ?_ | refine zD ?_ _)); exact BK132.out) hb)
 have n1_ := zC.mk (zK (g := gb133) (o := .cells #[.int .i64 a1_0, .int .i64 a1_1] 50 (0, 0)) (by (with_reducible repeat (first | refine zE ?_ _ | refine zI ?_ | refine zD ?_ _)); exact BK133.out) hb)
 have n2_ := zC.mk (zK (g := gb134) (o := .cells #[.int .i64 0, .int .i64 0] 50 (0, 0)) (by (with_reducible repeat (first | refine zE ?_ _ | refine zI ?_ | refine zD ?_ _)); exact BK134.out) hb)
 have n3_ := zC.mk (zL (by repeat (first | (with_reducible first | exact HB.out | apply zG | apply zA | apply zF | refine zH ?_ GE132.out | refine zH ?_ GE133.out | refine zH ?_ GE134.out) | exact HB.out)) hb)
 clear BK132
 clear BK133
 clear BK134
 clear HB
 have BK132 := n0_
 have BK133 := n1_
 have BK134 := n2_
 have HB := n3_
 clear n0_ n1_ n2_ n3_
 (try clear hb)
 refine hK.out _ _ ⟨zB BK132.out 0, zB BK132.out 1, zB BK132.out 2, zB BK132.out 3, zB BK132.out 4, zB BK132.out 5, zB BK133.out 0, zB BK133.out 1⟩ (fun hHeld => ?_)
 clear hK K
 refine yA (a' := ?_) ?_ ?_
 rotate_left
 ·
  show Act.put _ (some 11) _ = _
  go_simp
  rfl
 refine one_ (i := 7) (N := none) #[true, true, true, true, true, true, true, true] rfl rfl (yB HT_.out (by kernel_rfl)) (by decide) (fun K hK => ?_)
 have hs11 : w10.cell? ⟨gb134, 0, none⟩ = some (.int .i64 0) := zB BK134.out 0
 have hfs11 := zJ BK134.out 0
 have hns11_0 := NB132_134.out
 have hns11_1 := NB133_134.out
 have hms11_0 := NB134_132.out
 have hms11_1 := NB134_133.out
 have hs12 : w10.cell? ⟨gb134, 1, none⟩ = some (.int .i64 0) := zB BK134.out 1
 have hfs12 := zJ BK134.out 1
 have hns12_0 := NB132_134.out
 have hns12_1 := NB133_134.out
 have hms12_0 := NB134_132.out
 have hms12_1 := NB134_133.out
 refine skip_ (w1 := ?_) (by rfl) rfl ?_ ?_
 rotate_left
 ·
  go_simp
  rfl
 refine hK.out _ _ ⟨((zT (p := ⟨gb134, _, none⟩) NB132_134.out _).trans (((zT (p := ⟨gb134, _, none⟩) NB132_134.out _).trans (hHeld.1)))), ((zT (p := ⟨gb134, _, none⟩) NB132_134.out _).trans (((zT (p := ⟨gb134, _, none⟩) NB132_134.out _).trans (hHeld.2.1)))), ((zT (p := ⟨gb134, _, none⟩) NB132_134.out _).trans (((zT (p := ⟨gb134, _, none⟩) NB132_134.out _).trans (hHeld.2.2.1)))), ((zT (p := ⟨gb134, _, none⟩) NB132_134.out _).trans (((zT (p := ⟨gb134, _, none⟩) NB132_134.out _).trans (hHeld.2.2.2.1)))), ((zT (p := ⟨gb134, _, none⟩) NB132_134.out _).trans (((zT (p := ⟨gb134, _, none⟩) NB132_134.out _).trans (hHeld.2.2.2.2.1)))), ((zT (p := ⟨gb134, _, none⟩) NB132_134.out _).trans (((zT (p := ⟨gb134, _, none⟩) NB132_134.out _).trans (hHeld.2.2.2.2.2.1)))), ((zT (p := ⟨gb134, _, none⟩) NB133_134.out _).trans (((zT (p := ⟨gb134, _, none⟩) NB133_134.out _).trans (hHeld.2.2.2.2.2.2.1)))), ((zT (p := ⟨gb134, _, none⟩) NB133_134.out _).trans (((zT (p := ⟨gb134, _, none⟩) NB133_134.out _).trans (hHeld.2.2.2.2.2.2.2))))⟩ (fun hHeld => ?_)
 clear hK K
 refine done_ (done_of HT_.out (by kernel_rfl)) ?_
 try go_wp2
 refine bodyPost_ret (results_cell_row rfl _ _ gb134 50 #[.int .i64 t137, .int .i64 t138] (0, 0) _ rfl (by (with_reducible repeat (first | refine zE ?_ _ | refine zI ?_ | refine zD ?_ _)); refine zS (cs := #[.int .i64 t137, .int .i64 0]) ?_ 1 _ rfl; (with_reducible repeat (first | refine zE ?_ _ | refine zI ?_ | refine zD ?_ _)); refine zS (cs := #[.int .i64 0, .int .i64 0]) ?_ 0 _ rfl; (with_reducible repeat (first | refine zE ?_ _ | refine zI ?_ | refine zD ?_ _)); exact BK134.out) Try.underlying50 rfl (by kernel_rfl)) rfl ?_
 exact ⟨by first | rfl | (simp [*, errW_none, errW_some] <;> rfl), by repeat (first | (with_reducible first | exact HB.out | apply zG | apply zA | apply zF | refine zH ?_ GE132.out | refine zH ?_ GE133.out | refine zH ?_ GE134.out) | exact HB.out)⟩
theorem xU.calls (a0 : Int) (a1 : Int) (r : Int) (w : World) (h : xU.f a0 a1 = some r) :
  Calls Try.prog 93 #[.int .i64 a0, .int .i64 a1] w fun e w' => e = .returned (.int .i64 r) ∧ Drawn0 w w' := by
 have H : (if a1 = 0 then (none) else (if (Int.tmod a0 a1) < 0 then (some (wrap64 ((Int.tmod a0 a1) + a1))) else (some (Int.tmod a0 a1)))) = some r := h
 clear h
 by_cases c3 : a1 = 0
 ·
  rw [if_pos c3] at H
  exact absurd H (by simp)
 ·
  rw [if_neg c3] at H
  have c3b0 : (a1 == 0) = false := beq_eq_false_iff_ne.mpr c3
  have c3b1 : (a1 != 0) = true := bne_iff_ne.mpr c3
  by_cases c4 : (Int.tmod a0 a1) < 0
  ·
   rw [if_pos c4] at H
   have c4b0 : decide ((Int.tmod a0 a1) < 0) = true := decide_eq_true c4
   clear c4
   obtain rfl := Option.some.inj H
   go_enter Try.func93, Try.ntmps93
   go_wp2
   go_ret
   exact ⟨by first | rfl | (simp; done) | (simp [*]; done), by repeat (first | exact Drawn0.refl _ | apply Drawn0.step)⟩
  ·
   rw [if_neg c4] at H
   have c4b0 : decide ((Int.tmod a0 a1) < 0) = false := decide_eq_false c4
   clear c4
   obtain rfl := Option.some.inj H
   go_enter Try.func93, Try.ntmps93
   go_wp2
   go_ret
   exact ⟨by first | rfl | (simp; done) | (simp [*]; done), by repeat (first | exact Drawn0.refl _ | apply Drawn0.step)⟩
theorem wJ.calls (a0_0 : Int) (a0_1 : Int) (a0_2 : Int) (a1_0 : Int) (a1_1 : Int) (r1 : Int) (r2 : Int) (w : World) (h : wJ.f a0_0 a0_1 a0_2 a1_0 a1_1 = some (r1, r2)) :
  Calls Try.prog 103 #[.agg #[.int .i64 a0_0, .int .i64 a0_1, .int .i64 a0_2], .agg #[.int .i64 a1_0, .int .i64 a1_1]] w fun e w' => e = .returned (.agg #[.int .i64 r1, .int .i64 r2]) ∧ Below w.heap.size w w' := by
 have hu30 := Try.underlying30
 have hu50 := Try.underlying50
 have HB := zC.mk (Below.refl w.heap.size w)
 have H : ((xU.f a1_1 a0_2).bind fun t142 => (if a0_2 = 0 then (none) else ((xU.f (wrap64 (a1_0 - (wrap64 ((wrap64 (Int.tdiv (wrap64 (a1_1 - t142)) a0_2)) * a0_1)))) a0_0).bind fun t143 => (some (t143, t142))))) = some (r1, r2) := h
 clear h
 replace H := Option.bind_eq_some_iff.mp H
 obtain ⟨t142, A30, H⟩ := H
 replace H : (if a0_2 = 0 then (none) else ((xU.f (wrap64 (a1_0 - (wrap64 ((wrap64 (Int.tdiv (wrap64 (a1_1 - t142)) a0_2)) * a0_1)))) a0_0).bind fun t143 => (some (t143, t142)))) = some (r1, r2) := H
 have A3 := zC.mk A30
 clear A30
 by_cases c4 : a0_2 = 0
 ·
  rw [if_pos c4] at H
  exact absurd H (by simp)
 ·
  rw [if_neg c4] at H
  have c4b0 : (a0_2 == 0) = false := beq_eq_false_iff_ne.mpr c4
  have c4b1 : (a0_2 != 0) = true := bne_iff_ne.mpr c4
  replace H := Option.bind_eq_some_iff.mp H
  obtain ⟨t143, A50, H⟩ := H
  replace H : (some (t143, t142)) = some (r1, r2) := H
  have A5 := zC.mk A50
  clear A50
  simp only [Option.some.injEq, Prod.mk.injEq] at H
  obtain ⟨rfl, rfl⟩ := H
  go_enter Try.func103, Try.ntmps103
  go_wp2_with (first | ((with_reducible refine zQ (N := 2) rfl ?_); refine zO ?hg (N := 2) ?hd (cs := #[.int .i64 a0_0, .int .i64 a0_1, .int .i64 a0_2]) (t := 30) ?hr ?_; (case hd => rfl); (case hg => rfl); (case hr => first | (go_simp; done) | (go_simp; rfl)); intro gb139 hg w6 hbox hb; have n0_ := zC.mk (zL (by repeat (first | (with_reducible first | exact HB.out | apply zG | apply zA | apply zF) | exact HB.out)) hb); have n1_ := zC.mk (hbox); have n2_ := zC.mk ((by rw [hg]; exact (zM (by repeat (first | (with_reducible first | exact HB.out | apply zG | apply zA | apply zF) | exact HB.out))) : w.heap.size ≤ gb139)); have n3_ := n2_; clear HB; have HB := n0_; have BK139 := n1_; have GW139 := n2_; have GE139 := n3_; clear n0_ n1_ n2_ n3_; clear hb hbox hg) | ((with_reducible refine zQ (N := 3) rfl ?_); refine zO ?hg (N := 3) ?hd (cs := #[.int .i64 a1_0, .int .i64 a1_1]) (t := 50) ?hr ?_; (case hd => rfl); (case hg => rfl); (case hr => first | (go_simp; done) | (go_simp; rfl)); intro gb140 hg w7 hbox hb; have n0_ := zC.mk (zK (g := gb139) (o := .cells #[.int .i64 a0_0, .int .i64 a0_1, .int .i64 a0_2] 30 (0, 0)) (by (with_reducible repeat (first | refine zE ?_ _ | refine zI ?_ | refine zD ?_ _)); exact BK139.out) hb); have n1_ := zC.mk (zL (by repeat (first | (with_reducible first | exact HB.out | apply zG | apply zA | apply zF | refine zH ?_ GE139.out) | exact HB.out)) hb); have n2_ := zC.mk (hbox); have n3_ := zC.mk ((by rw [hg]; exact (zM (by repeat (first | (with_reducible first | exact HB.out | apply zG | apply zA | apply zF | refine zH ?_ GE139.out) | exact HB.out))) : w.heap.size ≤ gb140)); have n4_ := n3_; have n5_ := zC.mk ((by rw [hg]; exact Nat.ne_of_lt (zV (by (with_reducible repeat (first | refine zE ?_ _ | refine zI ?_ | refine zD ?_ _)); exact BK139.out)) : gb139 ≠ gb140)); have n6_ := zC.mk n5_.out.symm; clear BK139; clear HB; have BK139 := n0_; have HB := n1_; have BK140 := n2_; have GW140 := n3_; have GE140 := n4_; have NB139_140 := n5_; have NB140_139 := n6_; clear n0_ n1_ n2_ n3_ n4_ n5_ n6_; clear hb hbox hg) | ((with_reducible refine zQ (N := 4) rfl ?_); refine zO ?hg (N := 4) ?hd (cs := #[.int .i64 0, .int .i64 0]) (t := 50) ?hr ?_; (case hd => rfl); (case hg => rfl); (case hr => first | (go_simp; done) | (go_simp; rfl)); intro gb141 hg w8 hbox hb; have n0_ := zC.mk (zK (g := gb139) (o := .cells #[.int .i64 a0_0, .int .i64 a0_1, .int .i64 a0_2] 30 (0, 0)) (by (with_reducible repeat (first | refine zE ?_ _ | refine zI ?_ | refine zD ?_ _)); exact BK139.out) hb); have n1_ := zC.mk (zK (g := gb140) (o := .cells #[.int .i64 a1_0, .int .i64 a1_1] 50 (0, 0)) (by (with_reducible repeat (first | refine zE ?_ _ | refine zI ?_ | refine zD ?_ _)); exact BK140.out) hb); have n2_ := zC.mk (zL (by repeat (first | (with_reducible first | exact HB.out | apply zG | apply zA | apply zF | refine zH ?_ GE139.out | refine zH ?_ GE140.out) | exact HB.out)) hb); have n3_ := zC.mk (hbox); have n4_ := zC.mk ((by rw [hg]; exact (zM (by repeat (first | (with_reducible first | exact HB.out | apply zG | apply zA | apply zF | refine zH ?_ GE139.out | refine zH ?_ GE140.out) | exact HB.out))) : w.heap.size ≤ gb141)); have n5_ := n4_; have n6_ := zC.mk ((by rw [hg]; exact Nat.ne_of_lt (zV (by (with_reducible repeat (first | refine zE ?_ _ | refine zI ?_ | refine zD ?_ _)); exact BK139.out)) : gb139 ≠ gb141)); have n7_ := zC.mk n6_.out.symm; have n8_ := zC.mk ((by rw [hg]; exact Nat.ne_of_lt (zV (by (with_reducible repeat (first | refine zE ?_ _ | refine zI ?_ | refine zD ?_ _)); exact BK140.out)) : gb140 ≠ gb141)); have n9_ := zC.mk n8_.out.symm; clear BK139; clear BK140; clear HB; have BK139 := n0_; have BK140 := n1_; have HB := n2_; have BK141 := n3_; have GW141 := n4_; have GE141 := n5_; have NB139_141 := n6_; have NB141_139 := n7_; have NB140_141 := n8_; have NB141_140 := n9_; clear n0_ n1_ n2_ n3_ n4_ n5_ n6_ n7_ n8_ n9_; clear hb hbox hg; have hnb9 := NB140_139.out; have hnc9 := NB139_140.out; have hnb10 := NB140_141.out; have hnc10 := NB141_140.out; have hcz11_0 : w8.cell? ⟨gb140, 0, none⟩ = some (.int .i64 a1_0) := zB BK140.out 0; have hcz11_1 : w8.cell? ⟨gb140, 1, none⟩ = some (.int .i64 a1_1) := zB BK140.out 1; have hfz11_0 := zJ BK140.out 0; have hfz11_1 := zJ BK140.out 1; have hnb12 := NB139_141.out; have hnc12 := NB141_139.out; have hcz13_0 : w8.cell? ⟨gb139, 0, none⟩ = some (.int .i64 a0_0) := zB BK139.out 0; have hcz13_1 : w8.cell? ⟨gb139, 1, none⟩ = some (.int .i64 a0_1) := zB BK139.out 1; have hcz13_2 : w8.cell? ⟨gb139, 2, none⟩ = some (.int .i64 a0_2) := zB BK139.out 2; have hfz13_0 := zJ BK139.out 0; have hfz13_1 := zJ BK139.out 1; have hfz13_2 := zJ BK139.out 2) | ((with_reducible refine zP (f := 93) rfl ?_); refine zX (some 11) rfl rfl Try.func93 (by kernel_rfl) rfl #[.int .i64 a1_1, .int .i64 a0_2] rfl (by (try simp only [List.map_toArray, List.map_cons, List.map_nil]); first | done | rfl) ?_; (with_reducible refine (xU.calls a1_1 a0_2 t142 _ A3.out).mono ?_); rintro e w' ⟨rfl, ⟨nd, rfl⟩⟩; refine ⟨_, rfl, ?_⟩; (try (rw [drewN_self w8]; generalize hq_ : World.drewN w8 _ = w8; have n0_ : zC (w8.heap[gb139]? = some (.cells #[.int .i64 a0_0, .int .i64 a0_1, .int .i64 a0_2] 30 (0, 0))) := ⟨by rw [← hq_]; exact (by (with_reducible repeat (first | refine zE ?_ _ | refine zI ?_ | refine zD ?_ _)); exact BK139.out)⟩; have n1_ : zC (w8.heap[gb140]? = some (.cells #[.int .i64 a1_0, .int .i64 a1_1] 50 (0, 0))) := ⟨by rw [← hq_]; exact (by (with_reducible repeat (first | refine zE ?_ _ | refine zI ?_ | refine zD ?_ _)); exact BK140.out)⟩; have n2_ : zC (w8.heap[gb141]? = some (.cells #[.int .i64 0, .int .i64 0] 50 (0, 0))) := ⟨by rw [← hq_]; exact (by (with_reducible repeat (first | refine zE ?_ _ | refine zI ?_ | refine zD ?_ _)); exact BK141.out)⟩; have n3_ : zC (Below w.heap.size w w8) := ⟨by rw [← hq_]; exact (by repeat (first | (with_reducible first | exact HB.out | apply zG | apply zA | apply zF | refine zH ?_ GE139.out | refine zH ?_ GE140.out | refine zH ?_ GE141.out) | exact HB.out))⟩; clear BK139 BK140 BK141 HB hq_; have BK139 := n0_; have BK140 := n1_; have BK141 := n2_; have HB := n3_; clear n0_ n1_ n2_ n3_)); have hcz14_0 : w8.cell? ⟨gb140, 0, none⟩ = some (.int .i64 a1_0) := zB BK140.out 0; have hcz14_1 : w8.cell? ⟨gb140, 1, none⟩ = some (.int .i64 a1_1) := zB BK140.out 1; have hfz14_0 := zJ BK140.out 0; have hfz14_1 := zJ BK140.out 1; have hcz15_0 : w8.cell? ⟨gb139, 0, none⟩ = some (.int .i64 a0_0) := zB BK139.out 0; have hcz15_1 : w8.cell? ⟨gb139, 1, none⟩ = some (.int .i64 a0_1) := zB BK139.out 1; have hcz15_2 : w8.cell? ⟨gb139, 2, none⟩ = some (.int .i64 a0_2) := zB BK139.out 2; have hfz15_0 := zJ BK139.out 0; have hfz15_1 := zJ BK139.out 1; have hfz15_2 := zJ BK139.out 2) | ((with_reducible refine zP (f := 93) rfl ?_); refine zX (some 28) rfl rfl Try.func93 (by kernel_rfl) rfl #[.int .i64 (wrap64 (a1_0 - (wrap64 ((wrap64 (Int.tdiv (wrap64 (a1_1 - t142)) a0_2)) * a0_1)))), .int .i64 a0_0] rfl (by (try simp only [List.map_toArray, List.map_cons, List.map_nil]); first | done | rfl) ?_; (with_reducible refine (xU.calls (wrap64 (a1_0 - (wrap64 ((wrap64 (Int.tdiv (wrap64 (a1_1 - t142)) a0_2)) * a0_1)))) a0_0 t143 _ A5.out).mono ?_); rintro e w' ⟨rfl, ⟨nd, rfl⟩⟩; refine ⟨_, rfl, ?_⟩; (try (rw [drewN_self w8]; generalize hq_ : World.drewN w8 _ = w8; have n0_ : zC (w8.heap[gb139]? = some (.cells #[.int .i64 a0_0, .int .i64 a0_1, .int .i64 a0_2] 30 (0, 0))) := ⟨by rw [← hq_]; exact (by (with_reducible repeat (first | refine zE ?_ _ | refine zI ?_ | refine zD ?_ _)); exact BK139.out)⟩; have n1_ : zC (w8.heap[gb140]? = some (.cells #[.int .i64 a1_0, .int .i64 a1_1] 50 (0, 0))) := ⟨by rw [← hq_]; exact (by (with_reducible repeat (first | refine zE ?_ _ | refine zI ?_ | refine zD ?_ _)); exact BK140.out)⟩; have n2_ : zC (w8.heap[gb141]? = some (.cells #[.int .i64 0, .int .i64 0] 50 (0, 0))) := ⟨by rw [← hq_]; exact (by (with_reducible repeat (first | refine zE ?_ _ | refine zI ?_ | refine zD ?_ _)); exact BK141.out)⟩; have n3_ : zC (Below w.heap.size w w8) := ⟨by rw [← hq_]; exact (by repeat (first | (with_reducible first | exact HB.out | apply zG | apply zA | apply zF | refine zH ?_ GE139.out | refine zH ?_ GE140.out | refine zH ?_ GE141.out) | exact HB.out))⟩; clear BK139 BK140 BK141 HB hq_; have BK139 := n0_; have BK140 := n1_; have BK141 := n2_; have HB := n3_; clear n0_ n1_ n2_ n3_)); have hcz16_0 : w8.cell? ⟨gb141, 0, none⟩ = some (.int .i64 0) := zB BK141.out 0; have hcz16_1 : w8.cell? ⟨gb141, 1, none⟩ = some (.int .i64 0) := zB BK141.out 1; have hfz16_0 := zJ BK141.out 0; have hfz16_1 := zJ BK141.out 1))
  refine bodyPost_ret (results_cell_row rfl _ _ gb141 50 #[.int .i64 t143, .int .i64 t142] (0, 0) _ rfl (by (with_reducible repeat (first | refine zE ?_ _ | refine zI ?_ | refine zD ?_ _)); refine zS (cs := #[.int .i64 t143, .int .i64 0]) ?_ 1 _ rfl; (with_reducible repeat (first | refine zE ?_ _ | refine zI ?_ | refine zD ?_ _)); refine zS (cs := #[.int .i64 0, .int .i64 0]) ?_ 0 _ rfl; (with_reducible repeat (first | refine zE ?_ _ | refine zI ?_ | refine zD ?_ _)); exact BK141.out) Try.underlying50 rfl (by kernel_rfl)) rfl ?_
  exact ⟨by first | rfl | (simp [*, errW_none, errW_some] <;> rfl), by repeat (first | (with_reducible first | exact HB.out | apply zG | apply zA | apply zF | refine zH ?_ GE139.out | refine zH ?_ GE140.out | refine zH ?_ GE141.out) | exact HB.out)⟩
theorem wT.calls (a0_0 : Int) (a0_1 : Int) (a0_2 : Int) (a1_0 : Int) (a1_1 : Int) (r : Int) (w : World) (h : wT.f a0_0 a0_1 a0_2 a1_0 a1_1 = some r) :
  Calls Try.prog 112 #[.agg #[.int .i64 a0_0, .int .i64 a0_1, .int .i64 a0_2], .agg #[.int .i64 a1_0, .int .i64 a1_1]] w fun e w' => e = .returned (.int .i64 r) ∧ Below w.heap.size w w' := by
 have hu30 := Try.underlying30
 have hu50 := Try.underlying50
 have HB := zC.mk (Below.refl w.heap.size w)
 have H : ((wJ.f a0_0 a0_1 a0_2 a1_0 a1_1).bind fun bt146 => (some (wrap64 ((wrap64 (bt146.1 * a0_2)) + bt146.2)))) = some r := h
 clear h
 replace H := Option.bind_eq_some_iff.mp H
 obtain ⟨⟨t146, t147⟩, A30, H⟩ := H
 replace H : (some (wrap64 ((wrap64 (t146 * a0_2)) + t147))) = some r := H
 have A3 := zC.mk A30
 clear A30
 obtain rfl := Option.some.inj H
 go_enter Try.func112, Try.ntmps112
 go_wp2_with (first | ((with_reducible refine zQ (N := 2) rfl ?_); refine zO ?hg (N := 2) ?hd (cs := #[.int .i64 a0_0, .int .i64 a0_1, .int .i64 a0_2]) (t := 30) ?hr ?_; (case hd => rfl); (case hg => rfl); (case hr => first | (go_simp; done) | (go_simp; rfl)); intro gb144 hg w4 hbox hb; have n0_ := zC.mk (zL (by repeat (first | (with_reducible first | exact HB.out | apply zG | apply zA | apply zF) | exact HB.out)) hb); have n1_ := zC.mk (hbox); have n2_ := zC.mk ((by rw [hg]; exact (zM (by repeat (first | (with_reducible first | exact HB.out | apply zG | apply zA | apply zF) | exact HB.out))) : w.heap.size ≤ gb144)); have n3_ := n2_; clear HB; have HB := n0_; have BK144 := n1_; have GW144 := n2_; have GE144 := n3_; clear n0_ n1_ n2_ n3_; clear hb hbox hg) | ((with_reducible refine zQ (N := 3) rfl ?_); refine zO ?hg (N := 3) ?hd (cs := #[.int .i64 a1_0, .int .i64 a1_1]) (t := 50) ?hr ?_; (case hd => rfl); (case hg => rfl); (case hr => first | (go_simp; done) | (go_simp; rfl)); intro gb145 hg w5 hbox hb; have n0_ := zC.mk (zK (g := gb144) (o := .cells #[.int .i64 a0_0, .int .i64 a0_1, .int .i64 a0_2] 30 (0, 0)) (by (with_reducible repeat (first | refine zE ?_ _ | refine zI ?_ | refine zD ?_ _)); exact BK144.out) hb); have n1_ := zC.mk (zL (by repeat (first | (with_reducible first | exact HB.out | apply zG | apply zA | apply zF | refine zH ?_ GE144.out) | exact HB.out)) hb); have n2_ := zC.mk (hbox); have n3_ := zC.mk ((by rw [hg]; exact (zM (by repeat (first | (with_reducible first | exact HB.out | apply zG | apply zA | apply zF | refine zH ?_ GE144.out) | exact HB.out))) : w.heap.size ≤ gb145)); have n4_ := n3_; have n5_ := zC.mk ((by rw [hg]; exact Nat.ne_of_lt (zV (by (with_reducible repeat (first | refine zE ?_ _ | refine zI ?_ | refine zD ?_ _)); exact BK144.out)) : gb144 ≠ gb145)); have n6_ := zC.mk n5_.out.symm; clear BK144; clear HB; have BK144 := n0_; have HB := n1_; have BK145 := n2_; have GW145 := n3_; have GE145 := n4_; have NB144_145 := n5_; have NB145_144 := n6_; clear n0_ n1_ n2_ n3_ n4_ n5_ n6_; clear hb hbox hg; have hnb6 := NB144_145.out; have hnc6 := NB145_144.out; have hcz7_0 : w5.cell? ⟨gb144, 0, none⟩ = some (.int .i64 a0_0) := zB BK144.out 0; have hcz7_1 : w5.cell? ⟨gb144, 1, none⟩ = some (.int .i64 a0_1) := zB BK144.out 1; have hcz7_2 : w5.cell? ⟨gb144, 2, none⟩ = some (.int .i64 a0_2) := zB BK144.out 2; have hfz7_0 := zJ BK144.out 0; have hfz7_1 := zJ BK144.out 1; have hfz7_2 := zJ BK144.out 2; have hcz8_0 : w5.cell? ⟨gb145, 0, none⟩ = some (.int .i64 a1_0) := zB BK145.out 0; have hcz8_1 : w5.cell? ⟨gb145, 1, none⟩ = some (.int .i64 a1_1) := zB BK145.out 1; have hfz8_0 := zJ BK145.out 0; have hfz8_1 := zJ BK145.out 1) | ((with_reducible refine zP (f := 103) rfl ?_); refine zX (some 7) rfl rfl Try.func103 (by kernel_rfl) rfl #[.agg #[.int .i64 a0_0, .int .i64 a0_1, .int .i64 a0_2], .agg #[.int .i64 a1_0, .int .i64 a1_1]] rfl (by (try simp only [List.map_toArray, List.map_cons, List.map_nil]); first | done | rfl) ?_; (with_reducible refine (wJ.calls a0_0 a0_1 a0_2 a1_0 a1_1 t146 t147 _ A3.out).mono ?_); rintro e w9 ⟨rfl, hb⟩; refine ⟨_, rfl, ?_⟩; have n0_ := zC.mk (zK (g := gb144) (o := .cells #[.int .i64 a0_0, .int .i64 a0_1, .int .i64 a0_2] 30 (0, 0)) (by (with_reducible repeat (first | refine zE ?_ _ | refine zI ?_ | refine zD ?_ _)); exact BK144.out) hb); have n1_ := zC.mk (zK (g := gb145) (o := .cells #[.int .i64 a1_0, .int .i64 a1_1] 50 (0, 0)) (by (with_reducible repeat (first | refine zE ?_ _ | refine zI ?_ | refine zD ?_ _)); exact BK145.out) hb); have n2_ := zC.mk (zL (by repeat (first | (with_reducible first | exact HB.out | apply zG | apply zA | apply zF | refine zH ?_ GE144.out | refine zH ?_ GE145.out) | exact HB.out)) hb); clear BK144; clear BK145; clear HB; have BK144 := n0_; have BK145 := n1_; have HB := n2_; clear n0_ n1_ n2_; (try clear hb); have hcz10_0 : w9.cell? ⟨gb145, 0, none⟩ = some (.int .i64 a1_0) := zB BK145.out 0; have hcz10_1 : w9.cell? ⟨gb145, 1, none⟩ = some (.int .i64 a1_1) := zB BK145.out 1; have hfz10_0 := zJ BK145.out 0; have hfz10_1 := zJ BK145.out 1; have hcz11_0 : w9.cell? ⟨gb144, 0, none⟩ = some (.int .i64 a0_0) := zB BK144.out 0; have hcz11_1 : w9.cell? ⟨gb144, 1, none⟩ = some (.int .i64 a0_1) := zB BK144.out 1; have hcz11_2 : w9.cell? ⟨gb144, 2, none⟩ = some (.int .i64 a0_2) := zB BK144.out 2; have hfz11_0 := zJ BK144.out 0; have hfz11_1 := zJ BK144.out 1; have hfz11_2 := zJ BK144.out 2))
 go_ret
 exact ⟨by first | rfl | (simp [*, errW_none, errW_some] <;> rfl), by repeat (first | (with_reducible first | exact HB.out | apply zG | apply zA | apply zF | refine zH ?_ GE144.out | refine zH ?_ GE145.out) | exact HB.out)⟩
def xY.T1 : Bool × List (List Nat × List Nat) := (true, [([], []), ([0], [0]), ([], []), ([2], [2]), ([], []), ([3, 4], [3, 4]), ([1, 5], [1, 5]), ([6], [6]), ([7, 5, 0, 1, 2, 3, 4, 5, 6, 7], [7])])
def xY.B1 : List Nat := [0, 1, 0, 4, 0, 28, 63, 127, 255]
theorem xY.tab1 : rtab .any (opsOf Try.f163 1) = xY.T1 := by kernel_rfl
theorem xY.bits1 : waitsOk xY.T1.2 xY.B1 = true := by kernel_rfl
theorem xY.calls (a0_0 : Int) (a0_1 : Int) (a0_2 : Int) (a0_3 : Int) (A0_4 : Option Addr) (c0_4 : Nat) (l0_4 : List Int) (a1_0 : Int) (a1_1 : Int) (r : Int) (w : World) (hr0_4 : Kd.C (Kd.int .i64) w A0_4 l0_4.length l0_4) (hc0_4 : l0_4.length ≤ c0_4) (h : xY.f a0_0 a0_1 a0_2 a0_3 l0_4 a1_0 a1_1 = some r) :
  Calls Try.prog 163 #[.agg #[.int .i64 a0_0, .int .i64 a0_1, .int .i64 a0_2, .int .i64 a0_3, .slice A0_4 l0_4.length c0_4], .agg #[.int .i64 a1_0, .int .i64 a1_1]] w fun e w' => e = .returned (.int .i64 r) ∧ Below w.heap.size w w' := by
 have hu32 := Try.underlying32
 have hu50 := Try.underlying50
 have hu30 := Try.underlying30
 have HR0_4 := zC.mk hr0_4
 have HC0_4 := zC.mk hc0_4
 clear hr0_4 hc0_4
 have HB := zC.mk (Below.refl w.heap.size w)
 have H : ((wT.f a0_1 a0_2 a0_3 a1_0 a1_1).bind fun t150 => (if 0 ≤ t150 then (if t150 < (l0_4.length : Int) then (some (rd l0_4 t150)) else (none)) else (none))) = some r := h
 clear h
 replace H := Option.bind_eq_some_iff.mp H
 obtain ⟨t150, A30, H⟩ := H
 replace H : (if 0 ≤ t150 then (if t150 < (l0_4.length : Int) then (some (rd l0_4 t150)) else (none)) else (none)) = some r := H
 have A3 := zC.mk A30
 clear A30
 by_cases c4 : 0 ≤ t150
 ·
  rw [if_pos c4] at H
  have c4b0 : decide (0 ≤ t150) = true := decide_eq_true c4
  clear c4
  by_cases c5 : t150 < (l0_4.length : Int)
  ·
   rw [if_pos c5] at H
   have c5b0 : decide (t150 < (l0_4.length : Int)) = true := decide_eq_true c5
   clear c5
   obtain rfl := Option.some.inj H
   go_enter Try.func163, Try.ntmps163
   try go_wp2_with (first | ((with_reducible refine zQ (N := 2) rfl ?_); refine zO ?hg (N := 2) ?hd (cs := #[.int .i64 a0_0, .int .i64 a0_1, .int .i64 a0_2, .int .i64 a0_3, .slice A0_4 l0_4.length c0_4]) (t := 32) ?hr ?_; (case hd => rfl); (case hg => rfl); (case hr => first | (go_simp; done) | (go_simp; rfl)); intro gb148 hg w6 hbox hb; have n0_ := zC.mk (zL (by repeat (first | (with_reducible first | exact HB.out | apply zG | apply zA | apply zF) | exact HB.out)) hb); have n1_ := zC.mk (hbox); have n2_ := zC.mk ((by rw [hg]; exact (zM (by repeat (first | (with_reducible first | exact HB.out | apply zG | apply zA | apply zF) | exact HB.out))) : w.heap.size ≤ gb148)); have n3_ := n2_; clear HB; have HB := n0_; have BK148 := n1_; have GW148 := n2_; have GE148 := n3_; clear n0_ n1_ n2_ n3_; clear hb hbox hg) | ((with_reducible refine zQ (N := 3) rfl ?_); refine zO ?hg (N := 3) ?hd (cs := #[.int .i64 a1_0, .int .i64 a1_1]) (t := 50) ?hr ?_; (case hd => rfl); (case hg => rfl); (case hr => first | (go_simp; done) | (go_simp; rfl)); intro gb149 hg w7 hbox hb; have n0_ := zC.mk (zK (g := gb148) (o := .cells #[.int .i64 a0_0, .int .i64 a0_1, .int .i64 a0_2, .int .i64 a0_3, .slice A0_4 l0_4.length c0_4] 32 (0, 0)) (by (with_reducible repeat (first | refine zE ?_ _ | refine zI ?_ | refine zD ?_ _)); exact BK148.out) hb); have n1_ := zC.mk (zL (by repeat (first | (with_reducible first | exact HB.out | apply zG | apply zA | apply zF | refine zH ?_ GE148.out) | exact HB.out)) hb); have n2_ := zC.mk (hbox); have n3_ := zC.mk ((by rw [hg]; exact (zM (by repeat (first | (with_reducible first | exact HB.out | apply zG | apply zA | apply zF | refine zH ?_ GE148.out) | exact HB.out))) : w.heap.size ≤ gb149)); have n4_ := n3_; have n5_ := zC.mk ((by rw [hg]; exact Nat.ne_of_lt (zV (by (with_reducible repeat (first | refine zE ?_ _ | refine zI ?_ | refine zD ?_ _)); exact BK148.out)) : gb148 ≠ gb149)); have n6_ := zC.mk n5_.out.symm; clear BK148; clear HB; have BK148 := n0_; have HB := n1_; have BK149 := n2_; have GW149 := n3_; have GE149 := n4_; have NB148_149 := n5_; have NB149_148 := n6_; clear n0_ n1_ n2_ n3_ n4_ n5_ n6_; clear hb hbox hg))
   have n0_ := zC.mk (zI BK148.out)
   have n1_ := zC.mk (zI BK149.out)
   have n2_ := zC.mk (zF HB.out)
   clear BK148
   clear BK149
   clear HB
   have BK148 := n0_
   have BK149 := n1_
   have HB := n2_
   clear n0_ n1_ n2_
   have p151 : 0 ≤ (t150 : Int) := of_decide_eq_true (by first | (with_reducible assumption) | assumption)
   have q151 : t150 < (l0_4.length : Int) := of_decide_eq_true (by first | (with_reducible assumption) | assumption)
   obtain ⟨ad151, e151, hx151_0⟩ := Kd.at_int HR0_4.out t150 p151 q151
   have hw151_0 := hx151_0
   cases e151
   replace hx151_0 := (HB.out.cell (World.block_lt_of_cell? w _ hx151_0)).trans hx151_0
   replace p151 := eq_true p151
   replace q151 := eq_true q151
   refine start_ (n := 9) (S := fun w' => w'.cell? ⟨gb148, 0, none⟩ = some (.int .i64 a0_0) ∧ w'.cell? ⟨gb148, 1, none⟩ = some (.int .i64 a0_1) ∧ w'.cell? ⟨gb148, 2, none⟩ = some (.int .i64 a0_2) ∧ w'.cell? ⟨gb148, 3, none⟩ = some (.int .i64 a0_3) ∧ w'.cell? ⟨gb148, 4, none⟩ = some (.slice (some ad151) l0_4.length c0_4) ∧ w'.cell? ⟨gb149, 0, none⟩ = some (.int .i64 a1_0) ∧ w'.cell? ⟨gb149, 1, none⟩ = some (.int .i64 a1_1) ∧ w'.cell? (ad151.add (t150).toNat) = some (.int .i64 (rd l0_4 t150))) (ds := []) #[false, false, false, false, false, false, false, false, false] (by kernel_rfl) rfl rfl ⟨zB BK148.out 0, zB BK148.out 1, zB BK148.out 2, zB BK148.out 3, zB BK148.out 4, zB BK149.out 0, zB BK149.out 1, ((HB.out.cell (World.block_lt_of_cell? w _ hw151_0)).trans hw151_0)⟩ (fun hHeld => ?_); refine yE xY.tab1 xY.bits1 (fun HT_ HW_ => ?_)
   generalize w7.drew = w8 at BK148 BK149 HB hx151_0 hHeld ⊢
   refine zR (i := 0) (N := some 5) (v := ?_) (a' := ?_) #[true, false, false, false, false, false, false, false, false] rfl rfl (zN HT_.out (by kernel_rfl)) (fun _ _ _ h => h) (Or.inl ⟨by rfl, ?_⟩) ?_ ?_
   rotate_left
   ·
    intro w'
    go_simp
    with_reducible rfl
   rotate_left
   ·
    go_simp
    rfl
   refine zR (i := 2) (N := some 7) (v := ?_) (a' := ?_) #[true, false, true, false, false, false, false, false, false] rfl rfl (zN HT_.out (by kernel_rfl)) (fun _ _ _ h => h) (Or.inl ⟨by rfl, ?_⟩) ?_ ?_
   rotate_left
   ·
    intro w'
    go_simp
    with_reducible rfl
   rotate_left
   ·
    go_simp
    rfl
   refine yC (i := 1) (N := some 6) (v := ?_) (a' := ?_) #[true, true, true, false, false, false, false, false, false] rfl rfl (zW HT_.out HW_.out (by kernel_rfl)) (fun _ _ _ h => h) (Or.inl ⟨by rfl, ?_⟩) hHeld ?_ ?_
   rotate_left
   ·
    rintro w' ⟨s0, s1, s2, s3, s4, s5, s6, s7⟩
    go_simp
    with_reducible rfl
   rotate_left
   ·
    go_simp
    rfl
   refine yC (i := 3) (N := some 8) (v := ?_) (a' := ?_) #[true, true, true, true, false, false, false, false, false] rfl rfl (zW HT_.out HW_.out (by kernel_rfl)) (fun _ _ _ h => h) (Or.inl ⟨by rfl, ?_⟩) hHeld ?_ ?_
   rotate_left
   ·
    rintro w' ⟨s0, s1, s2, s3, s4, s5, s6, s7⟩
    go_simp
    with_reducible rfl
   rotate_left
   ·
    go_simp
    rfl
   refine yC (i := 4) (N := some 9) (v := ?_) (a' := ?_) #[true, true, true, true, true, false, false, false, false] rfl rfl (zW HT_.out HW_.out (by kernel_rfl)) (fun _ _ _ h => h) (Or.inl ⟨by rfl, ?_⟩) hHeld ?_ ?_
   rotate_left
   ·
    rintro w' ⟨s0, s1, s2, s3, s4, s5, s6, s7⟩
    go_simp
    with_reducible rfl
   rotate_left
   ·
    go_simp
    rfl
   refine one_ (i := 5) (N := some 10) #[true, true, true, true, true, true, false, false, false] rfl rfl (yB HT_.out (by kernel_rfl)) (by decide) (fun K hK => ?_)
   refine yD Try.func112 (by kernel_rfl) rfl #[.agg #[.int .i64 a0_1, .int .i64 a0_2, .int .i64 a0_3], .agg #[.int .i64 a1_0, .int .i64 a1_1]] (by rfl) rfl rfl (by (try simp only [List.map_toArray, List.map_cons, List.map_nil]); first | done | rfl) ?_
   with_reducible refine (wT.calls a0_1 a0_2 a0_3 a1_0 a1_1 t150 _ A3.out).mono ?_
   rintro e w9 ⟨rfl, hb⟩
   refine ⟨_, rfl, ?_⟩
   have n0_ := zC.mk (zK (g := gb148) (o := .cells #[.int .i64 a0_0, .int .i64 a0_1, .int .i64 a0_2, .int .i64 a0_3, .slice (some ad151) l0_4.length c0_4] 32 (0, 0)) (by (with_reducible repeat (first | refine zE ?_ _ | refine zI ?_ | refine zD ?_ _)); exact BK148.out) hb)
   have n1_ := zC.mk (zK (g := gb149) (o := .cells #[.int .i64 a1_0, .int .i64 a1_1] 50 (0, 0)) (by (with_reducible repeat (first | refine zE ?_ _ | refine zI ?_ | refine zD ?_ _)); exact BK149.out) hb)
   have n2_ := zC.mk (zL (by repeat (first | (with_reducible first | exact HB.out | apply zG | apply zA | apply zF | refine zH ?_ GE148.out | refine zH ?_ GE149.out) | exact HB.out)) hb)
   clear BK148
   clear BK149
   clear HB
   have BK148 := n0_
   have BK149 := n1_
   have HB := n2_
   clear n0_ n1_ n2_
   (try clear hb)
   refine hK.out _ _ ⟨zB BK148.out 0, zB BK148.out 1, zB BK148.out 2, zB BK148.out 3, zB BK148.out 4, zB BK149.out 0, zB BK149.out 1, ((HB.out.cell (World.block_lt_of_cell? w _ hw151_0)).trans hw151_0)⟩ (fun hHeld => ?_)
   clear hK K
   refine yA (a' := ?_) ?_ ?_
   rotate_left
   ·
    show Act.put _ (some 10) _ = _
    go_simp
    rfl
   refine zR (i := 6) (N := some 11) (v := ?_) (a' := ?_) #[true, true, true, true, true, true, true, false, false] rfl rfl (zN HT_.out (by kernel_rfl)) (fun _ _ _ h => h) (Or.inl ⟨by rfl, ?_⟩) ?_ ?_
   rotate_left
   ·
    intro w'
    go_simp
    with_reducible rfl
   rotate_left
   ·
    go_simp
    rfl
   refine yC (i := 7) (N := some 12) (v := ?_) (a' := ?_) #[true, true, true, true, true, true, true, true, false] rfl rfl (zW HT_.out HW_.out (by kernel_rfl)) (fun _ _ _ h => h) (Or.inl ⟨by rfl, ?_⟩) hHeld ?_ ?_
   rotate_left
   ·
    rintro w' ⟨s0, s1, s2, s3, s4, s5, s6, s7⟩
    go_simp
    with_reducible rfl
   rotate_left
   ·
    go_simp
    rfl
   refine zR (i := 8) (N := some 4) (v := ?_) (a' := ?_) #[true, true, true, true, true, true, true, true, true] rfl rfl (zN HT_.out (by kernel_rfl)) (fun _ _ _ h => h) (Or.inl ⟨by rfl, ?_⟩) ?_ ?_
   rotate_left
   ·
    intro w'
    go_simp
    with_reducible rfl
   rotate_left
   ·
    go_simp
    rfl
   refine done_ (done_of HT_.out (by kernel_rfl)) ?_
   try go_wp2
   go_ret
   exact ⟨by first | rfl | (simp [*, errW_none, errW_some] <;> rfl), by repeat (first | (with_reducible first | exact HB.out | apply zG | apply zA | apply zF | refine zH ?_ GE148.out | refine zH ?_ GE149.out) | exact HB.out)⟩
  ·
   rw [if_neg c5] at H
   exact absurd H (by simp)
 ·
  rw [if_neg c4] at H
  exact absurd H (by simp)
def yW.T5 : Bool × List (List Nat × List Nat) := (true, [([], []), ([], []), ([], []), ([], []), ([2, 3], [2, 3]), ([4], [4]), ([1, 5], [1, 5]), ([0, 6, 6], [0, 6]), ([], []), ([], []), ([], []), ([9, 10], [9, 10]), ([11], [11]), ([8, 12, 7], [8, 12]), ([7, 13], [7, 13])])
def yW.B5 : List Nat := [0, 0, 0, 0, 12, 28, 62, 127, 0, 0, 0, 1536, 3584, 8191, 16383]
theorem yW.tab5 : rtab .any (opsOf Try.f128 5) = yW.T5 := by kernel_rfl
theorem yW.bits5 : waitsOk yW.T5.2 yW.B5 = true := by kernel_rfl
theorem yW.calls (k : Nat) (a0_0 : Int) (a0_1 : Int) (a0_2 : Int) (a0_3 : Int) (A0_4 : Option Addr) (c0_4 : Nat) (l0_4 : List Int) (a1_0 : Int) (a1_1 : Int) (a1_2 : Int) (a1_3 : Int) (a1_4 : Int) (a1_5 : Int) (r : Bool) (w : World) (hr0_4 : Kd.C (Kd.int .i64) w A0_4 l0_4.length l0_4) (hc0_4 : l0_4.length ≤ c0_4) (h : yW.f k a0_0 a0_1 a0_2 a0_3 l0_4 a1_0 a1_1 a1_2 a1_3 a1_4 a1_5 = some r) :
  Calls Try.prog 128 #[.agg #[.int .i64 a0_0, .int .i64 a0_1, .int .i64 a0_2, .int .i64 a0_3, .slice A0_4 l0_4.length c0_4], .agg #[.int .i64 a1_0, .int .i64 a1_1, .int .i64 a1_2, .int .i64 a1_3, .int .i64 a1_4, .int .i64 a1_5]] w fun e w' => e = .returned (.bool r) ∧ Below w.heap.size w w' := by
 have hu32 := Try.underlying32
 have hu52 := Try.underlying52
 have hu30 := Try.underlying30
 have hu50 := Try.underlying50
 have HR0_4 := zC.mk hr0_4
 have HC0_4 := zC.mk hc0_4
 clear hr0_4 hc0_4
 have HB := zC.mk (Below.refl w.heap.size w)
 have H : ((yO.f k a0_1 a0_2 a0_3).bind fun t154 => (yW.l0 k t154 0 a0_0 a0_1 a0_2 a0_3 l0_4 a1_0 a1_1 a1_2 a1_3 a1_4 a1_5)) = some r := h
 clear h
 replace H := Option.bind_eq_some_iff.mp H
 obtain ⟨t154, A30, H⟩ := H
 replace H : (yW.l0 k t154 0 a0_0 a0_1 a0_2 a0_3 l0_4 a1_0 a1_1 a1_2 a1_3 a1_4 a1_5) = some r := H
 have A3 := zC.mk A30
 clear A30
 have H' := zC.mk H
 clear H
 go_enter Try.func128, Try.ntmps128
 go_wp2_with (first | ((with_reducible refine zQ (N := 2) rfl ?_); refine zO ?hg (N := 2) ?hd (cs := #[.int .i64 a0_0, .int .i64 a0_1, .int .i64 a0_2, .int .i64 a0_3, .slice A0_4 l0_4.length c0_4]) (t := 32) ?hr ?_; (case hd => rfl); (case hg => rfl); (case hr => first | (go_simp; done) | (go_simp; rfl)); intro gb152 hg w4 hbox hb; have n0_ := zC.mk (zL (by repeat (first | (with_reducible first | exact HB.out | apply zG | apply zA | apply zF) | exact HB.out)) hb); have n1_ := zC.mk (hbox); have n2_ := zC.mk ((by rw [hg]; exact (zM (by repeat (first | (with_reducible first | exact HB.out | apply zG | apply zA | apply zF) | exact HB.out))) : w.heap.size ≤ gb152)); have n3_ := n2_; clear HB; have HB := n0_; have BK152 := n1_; have GW152 := n2_; have GE152 := n3_; clear n0_ n1_ n2_ n3_; clear hb hbox hg) | ((with_reducible refine zQ (N := 3) rfl ?_); refine zO ?hg (N := 3) ?hd (cs := #[.int .i64 a1_0, .int .i64 a1_1, .int .i64 a1_2, .int .i64 a1_3, .int .i64 a1_4, .int .i64 a1_5]) (t := 52) ?hr ?_; (case hd => rfl); (case hg => rfl); (case hr => first | (go_simp; done) | (go_simp; rfl)); intro gb153 hg w5 hbox hb; have n0_ := zC.mk (zK (g := gb152) (o := .cells #[.int .i64 a0_0, .int .i64 a0_1, .int .i64 a0_2, .int .i64 a0_3, .slice A0_4 l0_4.length c0_4] 32 (0, 0)) (by (with_reducible repeat (first | refine zE ?_ _ | refine zI ?_ | refine zD ?_ _)); exact BK152.out) hb); have n1_ := zC.mk (zL (by repeat (first | (with_reducible first | exact HB.out | apply zG | apply zA | apply zF | refine zH ?_ GE152.out) | exact HB.out)) hb); have n2_ := zC.mk (hbox); have n3_ := zC.mk ((by rw [hg]; exact (zM (by repeat (first | (with_reducible first | exact HB.out | apply zG | apply zA | apply zF | refine zH ?_ GE152.out) | exact HB.out))) : w.heap.size ≤ gb153)); have n4_ := n3_; have n5_ := zC.mk ((by rw [hg]; exact Nat.ne_of_lt (zV (by (with_reducible repeat (first | refine zE ?_ _ | refine zI ?_ | refine zD ?_ _)); exact BK152.out)) : gb152 ≠ gb153)); have n6_ := zC.mk n5_.out.symm; clear BK152; clear HB; have BK152 := n0_; have HB := n1_; have BK153 := n2_; have GW153 := n3_; have GE153 := n4_; have NB152_153 := n5_; have NB153_152 := n6_; clear n0_ n1_ n2_ n3_ n4_ n5_ n6_; clear hb hbox hg; have hnb6 := NB152_153.out; have hnc6 := NB153_152.out; have hcz7_0 : w5.cell? ⟨gb152, 0, none⟩ = some (.int .i64 a0_0) := zB BK152.out 0; have hcz7_1 : w5.cell? ⟨gb152, 1, none⟩ = some (.int .i64 a0_1) := zB BK152.out 1; have hcz7_2 : w5.cell? ⟨gb152, 2, none⟩ = some (.int .i64 a0_2) := zB BK152.out 2; have hcz7_3 : w5.cell? ⟨gb152, 3, none⟩ = some (.int .i64 a0_3) := zB BK152.out 3; have hcz7_4 : w5.cell? ⟨gb152, 4, none⟩ = some (.slice A0_4 l0_4.length c0_4) := zB BK152.out 4; have hfz7_0 := zJ BK152.out 0; have hfz7_1 := zJ BK152.out 1; have hfz7_2 := zJ BK152.out 2; have hfz7_3 := zJ BK152.out 3; have hfz7_4 := zJ BK152.out 4) | ((with_reducible refine zP (f := 63) rfl ?_); refine zX (some 9) rfl rfl Try.func63 (by kernel_rfl) rfl #[.agg #[.int .i64 a0_1, .int .i64 a0_2, .int .i64 a0_3]] rfl (by (try simp only [List.map_toArray, List.map_cons, List.map_nil]); first | done | rfl) ?_; (with_reducible refine (yO.calls k a0_1 a0_2 a0_3 t154 _ A3.out).mono ?_); rintro e w8 ⟨v155, rfl, ho0, hb⟩; refine ⟨_, rfl, ?_⟩; have n0_ := zC.mk (Kd.R_lower ho0 (zM (by repeat (first | (with_reducible first | exact HB.out | apply zG | apply zA | apply zF | refine zH ?_ GE152.out | refine zH ?_ GE153.out) | exact HB.out)))); have n1_ := zC.mk (zK (g := gb152) (o := .cells #[.int .i64 a0_0, .int .i64 a0_1, .int .i64 a0_2, .int .i64 a0_3, .slice A0_4 l0_4.length c0_4] 32 (0, 0)) (by (with_reducible repeat (first | refine zE ?_ _ | refine zI ?_ | refine zD ?_ _)); exact BK152.out) hb); have n2_ := zC.mk (zK (g := gb153) (o := .cells #[.int .i64 a1_0, .int .i64 a1_1, .int .i64 a1_2, .int .i64 a1_3, .int .i64 a1_4, .int .i64 a1_5] 52 (0, 0)) (by (with_reducible repeat (first | refine zE ?_ _ | refine zI ?_ | refine zD ?_ _)); exact BK153.out) hb); have n3_ := zC.mk (zL (by repeat (first | (with_reducible first | exact HB.out | apply zG | apply zA | apply zF | refine zH ?_ GE152.out | refine zH ?_ GE153.out) | exact HB.out)) hb); clear BK152; clear BK153; clear HB; have HO156 := n0_; have BK152 := n1_; have BK153 := n2_; have HB := n3_; clear n0_ n1_ n2_ n3_; (try clear hb); (try clear ho0)))
 go_loopg [6] k (fun kq v6 w' => ∃ (x6_1 : Int), v6 = .int .i64 x6_1 ∧ zC (yW.l0 kq t154 x6_1 a0_0 a0_1 a0_2 a0_3 l0_4 a1_0 a1_1 a1_2 a1_3 a1_4 a1_5 = some r) ∧ zC (kq ≤ k) ∧ zC (Kd.R k50 50 w' w.heap.size (fun _ => True) v155 t154) ∧ zC (w'.heap[gb152]? = some (.cells #[.int .i64 a0_0, .int .i64 a0_1, .int .i64 a0_2, .int .i64 a0_3, (.slice A0_4 l0_4.length c0_4)] 32 (0, 0))) ∧ zC (w'.heap[gb153]? = some (.cells #[.int .i64 a1_0, .int .i64 a1_1, .int .i64 a1_2, .int .i64 a1_3, .int .i64 a1_4, .int .i64 a1_5] 52 (0, 0))) ∧ zC (Below w.heap.size w w'))
 case atStart => exact ⟨(0), (by first | rfl | (simp; done) | (simp [*]; done)), H', ⟨Nat.le_refl _⟩, ⟨by (with_reducible repeat (first | apply Kd.R_alloc | apply Kd.R_drewN | apply Kd.R_drew)); exact HO156.out⟩, ⟨by (with_reducible repeat (first | refine zE ?_ _ | refine zI ?_ | refine zD ?_ _)); exact BK152.out⟩, ⟨by (with_reducible repeat (first | refine zE ?_ _ | refine zI ?_ | refine zD ?_ _)); exact BK153.out⟩, ⟨by repeat (first | (with_reducible first | exact HB.out | apply zG | apply zA | apply zF | refine zH ?_ GE152.out | refine zH ?_ GE153.out) | exact HB.out)⟩⟩
 case round =>
  clear H'
  try clear c1
  try clear p2
  try clear c6
  try clear hcz7_0
  try clear hcz7_1
  try clear hcz7_2
  try clear hcz7_3
  try clear hcz7_4
  try clear hfz7_0
  try clear hfz7_1
  try clear hfz7_2
  try clear hfz7_3
  try clear hfz7_4
  obtain ⟨x6_1, rfl, HA, HK1, HO_5, BK152, BK153, HB⟩ := hrel
  cases gk with
  | zero => exact absurd HA.out (by simp [yW.l0])
  | succ k1 =>
   have H := HA.out
   clear HA
   simp only [yW.l0] at H
   by_cases c9 : x6_1 < (t154.length : Int)
   ·
    rw [if_pos c9] at H
    have c9b0 : decide (x6_1 < (t154.length : Int)) = true := decide_eq_true c9
    clear c9
    by_cases c10 : 0 ≤ x6_1
    ·
     rw [if_pos c10] at H
     have c10b0 : decide (0 ≤ x6_1) = true := decide_eq_true c10
     clear c10
     replace H := Option.bind_eq_some_iff.mp H
     obtain ⟨⟨t158, t159⟩, A110, H⟩ := H
     replace H : ((xY.f a0_0 a0_1 a0_2 a0_3 l0_4 t158 t159).bind fun t160 => ((xY.f a0_0 a0_1 a0_2 a0_3 l0_4 ((rd_T50 t154 x6_1).f0) ((rd_T50 t154 x6_1).f1)).bind fun t162 => (if t160 = t162 then (yW.l0 k1 t154 (wrap64 (x6_1 + 1)) a0_0 a0_1 a0_2 a0_3 l0_4 a1_0 a1_1 a1_2 a1_3 a1_4 a1_5) else (some false)))) = some r := H
     have A11 := zC.mk A110
     clear A110
     replace H := Option.bind_eq_some_iff.mp H
     obtain ⟨t160, A120, H⟩ := H
     replace H : ((xY.f a0_0 a0_1 a0_2 a0_3 l0_4 ((rd_T50 t154 x6_1).f0) ((rd_T50 t154 x6_1).f1)).bind fun t162 => (if t160 = t162 then (yW.l0 k1 t154 (wrap64 (x6_1 + 1)) a0_0 a0_1 a0_2 a0_3 l0_4 a1_0 a1_1 a1_2 a1_3 a1_4 a1_5) else (some false))) = some r := H
     have A12 := zC.mk A120
     clear A120
     replace H := Option.bind_eq_some_iff.mp H
     obtain ⟨t162, A130, H⟩ := H
     replace H : (if t160 = t162 then (yW.l0 k1 t154 (wrap64 (x6_1 + 1)) a0_0 a0_1 a0_2 a0_3 l0_4 a1_0 a1_1 a1_2 a1_3 a1_4 a1_5) else (some false)) = some r := H
     have A13 := zC.mk A130
     clear A130
     by_cases c14 : t160 = t162
     ·
      rw [if_pos c14] at H
      have c14b0 : (t160 == t162) = true := beq_iff_eq.mpr c14
      have c14b1 : (t160 != t162) = false := bne_eq_false_iff_eq.mpr c14
      clear c14
      have H' := zC.mk H
      clear H
      obtain ⟨Ao15, co15, eo15⟩ := Kd.R_slice HO_5.out
      subst eo15
      try go_wp2
      have n0_ := zC.mk (Kd.R_drew HO_5.out)
      have n1_ := zC.mk (zI BK152.out)
      have n2_ := zC.mk (zI BK153.out)
      have n3_ := zC.mk (zF HB.out)
      clear HO_5
      clear BK152
      clear BK153
      clear HB
      have HO_5 := n0_
      have BK152 := n1_
      have BK153 := n2_
      have HB := n3_
      clear n0_ n1_ n2_ n3_
      have p157 : 0 ≤ (x6_1 : Int) := of_decide_eq_true (by first | (with_reducible assumption) | assumption)
      have q157 : x6_1 < (t154.length : Int) := of_decide_eq_true (by first | (with_reducible assumption) | assumption)
      obtain ⟨ad157, e157, hx157_0, hx157_1⟩ := at_T50 (Kd.R_reads' HO_5.out).2.2 x6_1 p157 q157
      cases e157
      replace p157 := eq_true p157
      replace q157 := eq_true q157
      have p161 : 0 ≤ (x6_1 : Int) := of_decide_eq_true (by first | (with_reducible assumption) | assumption)
      have q161 : x6_1 < (t154.length : Int) := of_decide_eq_true (by first | (with_reducible assumption) | assumption)
      obtain ⟨ad161, e161, hx161_0, hx161_1⟩ := at_T50 (Kd.R_reads' HO_5.out).2.2 x6_1 p161 q161
      obtain rfl : ad157 = ad161 := (by injection e161)
      replace p161 := eq_true p161
      replace q161 := eq_true q161
      refine start_ (n := 15) (S := fun w' => w'.cell? ⟨gb152, 0, none⟩ = some (.int .i64 a0_0) ∧ w'.cell? ⟨gb152, 1, none⟩ = some (.int .i64 a0_1) ∧ w'.cell? ⟨gb152, 2, none⟩ = some (.int .i64 a0_2) ∧ w'.cell? ⟨gb152, 3, none⟩ = some (.int .i64 a0_3) ∧ w'.cell? ⟨gb152, 4, none⟩ = some (.slice A0_4 l0_4.length c0_4) ∧ w'.cell? ⟨gb153, 0, none⟩ = some (.int .i64 a1_0) ∧ w'.cell? ⟨gb153, 1, none⟩ = some (.int .i64 a1_1) ∧ w'.cell? ⟨gb153, 2, none⟩ = some (.int .i64 a1_2) ∧ w'.cell? ⟨gb153, 3, none⟩ = some (.int .i64 a1_3) ∧ w'.cell? ⟨gb153, 4, none⟩ = some (.int .i64 a1_4) ∧ w'.cell? ⟨gb153, 5, none⟩ = some (.int .i64 a1_5) ∧ w'.cell? (ad157.add ((x6_1).toNat * 2)) = some (.int .i64 ((rd_T50 t154 x6_1).f0)) ∧ w'.cell? ⟨(ad157.add ((x6_1).toNat * 2)).block, (ad157.add ((x6_1).toNat * 2)).off + 1, none⟩ = some (.int .i64 ((rd_T50 t154 x6_1).f1)) ∧ w'.cell? (ad157.add ((x6_1).toNat * 2)) = some (.int .i64 ((rd_T50 t154 x6_1).f0)) ∧ w'.cell? ⟨(ad157.add ((x6_1).toNat * 2)).block, (ad157.add ((x6_1).toNat * 2)).off + 1, none⟩ = some (.int .i64 ((rd_T50 t154 x6_1).f1))) (ds := []) #[false, false, false, false, false, false, false, false, false, false, false, false, false, false, false] (by kernel_rfl) rfl rfl ⟨zB BK152.out 0, zB BK152.out 1, zB BK152.out 2, zB BK152.out 3, zB BK152.out 4, zB BK153.out 0, zB BK153.out 1, zB BK153.out 2, zB BK153.out 3, zB BK153.out 4, zB BK153.out 5, hx157_0, hx157_1, hx161_0, hx161_1⟩ (fun hHeld => ?_); refine yE yW.tab5 yW.bits5 (fun HT_ HW_ => ?_)
      generalize wr.drew = w16 at HO_5 BK152 BK153 HB hx157_0 hx157_1 hx161_0 hx161_1 hHeld ⊢
      refine zR (i := 2) (N := some 18) (v := ?_) (a' := ?_) #[false, false, true, false, false, false, false, false, false, false, false, false, false, false, false] rfl rfl (zN HT_.out (by kernel_rfl)) (fun _ _ _ h => h) (Or.inl ⟨by rfl, ?_⟩) ?_ ?_
      rotate_left
      ·
       intro w'
       go_simp
       with_reducible rfl
      rotate_left
      ·
       simp only [Act.put, List.setIfInBounds_toArray, List.set_cons_zero, List.set_cons_succ, zY, zZ]
       rfl
      refine zR (i := 3) (N := some 19) (v := ?_) (a' := ?_) #[false, false, true, true, false, false, false, false, false, false, false, false, false, false, false] rfl rfl (zN HT_.out (by kernel_rfl)) (fun _ _ _ h => h) (Or.inl ⟨by rfl, ?_⟩) ?_ ?_
      rotate_left
      ·
       intro w'
       go_simp
       with_reducible rfl
      rotate_left
      ·
       simp only [Act.put, List.setIfInBounds_toArray, List.set_cons_zero, List.set_cons_succ, zY, zZ]
       rfl
      refine zR (i := 4) (N := some 20) (v := ?_) (a' := ?_) #[false, false, true, true, true, false, false, false, false, false, false, false, false, false, false] rfl rfl (zN HT_.out (by kernel_rfl)) (fun _ _ _ h => h) (Or.inl ⟨by rfl, ?_⟩) ?_ ?_
      rotate_left
      ·
       intro w'
       go_simp
       with_reducible rfl
      rotate_left
      ·
       simp only [Act.put, List.setIfInBounds_toArray, List.set_cons_zero, List.set_cons_succ, zY, zZ]
       rfl
      refine zR (i := 9) (N := some 25) (v := ?_) (a' := ?_) #[false, false, true, true, true, false, false, false, false, true, false, false, false, false, false] rfl rfl (zN HT_.out (by kernel_rfl)) (fun _ _ _ h => h) (Or.inl ⟨by rfl, ?_⟩) ?_ ?_
      rotate_left
      ·
       intro w'
       go_simp
       with_reducible rfl
      rotate_left
      ·
       simp only [Act.put, List.setIfInBounds_toArray, List.set_cons_zero, List.set_cons_succ, zY, zZ]
       rfl
      refine zR (i := 10) (N := some 26) (v := ?_) (a' := ?_) #[false, false, true, true, true, false, false, false, false, true, true, false, false, false, false] rfl rfl (zN HT_.out (by kernel_rfl)) (fun _ _ _ h => h) (Or.inl ⟨by rfl, ?_⟩) ?_ ?_
      rotate_left
      ·
       intro w'
       go_simp
       with_reducible rfl
      rotate_left
      ·
       simp only [Act.put, List.setIfInBounds_toArray, List.set_cons_zero, List.set_cons_succ, zY, zZ]
       rfl
      refine zR (i := 11) (N := some 27) (v := ?_) (a' := ?_) #[false, false, true, true, true, false, false, false, false, true, true, true, false, false, false] rfl rfl (zN HT_.out (by kernel_rfl)) (fun _ _ _ h => h) (Or.inl ⟨by rfl, ?_⟩) ?_ ?_
      rotate_left
      ·
       intro w'
       go_simp
       with_reducible rfl
      rotate_left
      ·
       simp only [Act.put, List.setIfInBounds_toArray, List.set_cons_zero, List.set_cons_succ, zY, zZ]
       rfl
      refine yC (i := 0) (N := some 16) (v := ?_) (a' := ?_) #[true, false, true, true, true, false, false, false, false, true, true, true, false, false, false] rfl rfl (zW HT_.out HW_.out (by kernel_rfl)) (fun _ _ _ h => h) (Or.inl ⟨by rfl, ?_⟩) hHeld ?_ ?_
      rotate_left
      ·
       rintro w' ⟨s0, s1, s2, s3, s4, s5, s6, s7, s8, s9, s10, s11, s12, s13, s14⟩
       go_simp
       with_reducible rfl
      rotate_left
      ·
       simp only [Act.put, List.setIfInBounds_toArray, List.set_cons_zero, List.set_cons_succ, zY, zZ]
       rfl
      refine yC (i := 1) (N := some 17) (v := ?_) (a' := ?_) #[true, true, true, true, true, false, false, false, false, true, true, true, false, false, false] rfl rfl (zW HT_.out HW_.out (by kernel_rfl)) (fun _ _ _ h => h) (Or.inl ⟨by rfl, ?_⟩) hHeld ?_ ?_
      rotate_left
      ·
       rintro w' ⟨s0, s1, s2, s3, s4, s5, s6, s7, s8, s9, s10, s11, s12, s13, s14⟩
       go_simp
       with_reducible rfl
      rotate_left
      ·
       simp only [Act.put, List.setIfInBounds_toArray, List.set_cons_zero, List.set_cons_succ, zY, zZ]
       rfl
      refine yC (i := 5) (N := some 21) (v := ?_) (a' := ?_) #[true, true, true, true, true, true, false, false, false, true, true, true, false, false, false] rfl rfl (zW HT_.out HW_.out (by kernel_rfl)) (fun _ _ _ h => h) (Or.inl ⟨by rfl, ?_⟩) hHeld ?_ ?_
      rotate_left
      ·
       rintro w' ⟨s0, s1, s2, s3, s4, s5, s6, s7, s8, s9, s10, s11, s12, s13, s14⟩
       go_simp
       with_reducible rfl
      rotate_left
      ·
       simp only [Act.put, List.setIfInBounds_toArray, List.set_cons_zero, List.set_cons_succ, zY, zZ]
       rfl
      refine yC (i := 8) (N := some 24) (v := ?_) (a' := ?_) #[true, true, true, true, true, true, false, false, true, true, true, true, false, false, false] rfl rfl (zW HT_.out HW_.out (by kernel_rfl)) (fun _ _ _ h => h) (Or.inl ⟨by rfl, ?_⟩) hHeld ?_ ?_
      rotate_left
      ·
       rintro w' ⟨s0, s1, s2, s3, s4, s5, s6, s7, s8, s9, s10, s11, s12, s13, s14⟩
       go_simp
       with_reducible rfl
      rotate_left
      ·
       simp only [Act.put, List.setIfInBounds_toArray, List.set_cons_zero, List.set_cons_succ, zY, zZ]
       rfl
      refine yC (i := 12) (N := some 28) (v := ?_) (a' := ?_) #[true, true, true, true, true, true, false, false, true, true, true, true, true, false, false] rfl rfl (zW HT_.out HW_.out (by kernel_rfl)) (fun _ _ _ h => h) (Or.inl ⟨by rfl, ?_⟩) hHeld ?_ ?_
      rotate_left
      ·
       rintro w' ⟨s0, s1, s2, s3, s4, s5, s6, s7, s8, s9, s10, s11, s12, s13, s14⟩
       go_simp
       with_reducible rfl
      rotate_left
      ·
       simp only [Act.put, List.setIfInBounds_toArray, List.set_cons_zero, List.set_cons_succ, zY, zZ]
       rfl
      refine one_ (i := 6) (N := some 22) #[true, true, true, true, true, true, true, false, true, true, true, true, true, false, false] rfl rfl (yB HT_.out (by kernel_rfl)) (by decide) (fun K hK => ?_)
      refine yD Try.func104 (by kernel_rfl) rfl #[.agg #[.int .i64 a1_0, .int .i64 a1_1, .int .i64 a1_2, .int .i64 a1_3, .int .i64 a1_4, .int .i64 a1_5], .agg #[.int .i64 ((rd_T50 t154 x6_1).f0), .int .i64 ((rd_T50 t154 x6_1).f1)]] (by rfl) rfl rfl (by (try simp only [List.map_toArray, List.map_cons, List.map_nil]); first | done | rfl) ?_
      with_reducible refine (xZ.calls a1_0 a1_1 a1_2 a1_3 a1_4 a1_5 ((rd_T50 t154 x6_1).f0) ((rd_T50 t154 x6_1).f1) t158 t159 _ A11.out).mono ?_
      rintro e w17 ⟨rfl, hb⟩
      have HS11_ := (hb.cell (World.block_lt_of_cell? _ _ (hHeld.2.2.2.2.2.2.2.2.2.2.2.1))).trans (hHeld.2.2.2.2.2.2.2.2.2.2.2.1)
      have HS12_ := (hb.cell (World.block_lt_of_cell? _ _ (hHeld.2.2.2.2.2.2.2.2.2.2.2.2.1))).trans (hHeld.2.2.2.2.2.2.2.2.2.2.2.2.1)
      have HS13_ := (hb.cell (World.block_lt_of_cell? _ _ (hHeld.2.2.2.2.2.2.2.2.2.2.2.2.2.1))).trans (hHeld.2.2.2.2.2.2.2.2.2.2.2.2.2.1)
      have HS14_ := (hb.cell (World.block_lt_of_cell? _ _ (hHeld.2.2.2.2.2.2.2.2.2.2.2.2.2.2))).trans (hHeld.2.2.2.2.2.2.2.2.2.2.2.2.2.2)
      refine ⟨_, rfl, ?_⟩
      have n0_ := zC.mk (Kd.R_below (by (with_reducible repeat (first | apply Kd.R_alloc | apply Kd.R_drewN | apply Kd.R_drew)); exact HO_5.out) hb)
      have n1_ := zC.mk (zK (g := gb152) (o := .cells #[.int .i64 a0_0, .int .i64 a0_1, .int .i64 a0_2, .int .i64 a0_3, .slice A0_4 l0_4.length c0_4] 32 (0, 0)) (by (with_reducible repeat (first | refine zE ?_ _ | refine zI ?_ | refine zD ?_ _)); exact BK152.out) hb)
      have n2_ := zC.mk (zK (g := gb153) (o := .cells #[.int .i64 a1_0, .int .i64 a1_1, .int .i64 a1_2, .int .i64 a1_3, .int .i64 a1_4, .int .i64 a1_5] 52 (0, 0)) (by (with_reducible repeat (first | refine zE ?_ _ | refine zI ?_ | refine zD ?_ _)); exact BK153.out) hb)
      have n3_ := zC.mk (zL (by repeat (first | (with_reducible first | exact HB.out | apply zG | apply zA | apply zF | refine zH ?_ GE152.out | refine zH ?_ GE153.out) | exact HB.out)) hb)
      clear HO_5
      clear BK152
      clear BK153
      clear HB
      have HO_5 := n0_
      have BK152 := n1_
      have BK153 := n2_
      have HB := n3_
      clear n0_ n1_ n2_ n3_
      (try clear hb)
      refine hK.out _ _ ⟨zB BK152.out 0, zB BK152.out 1, zB BK152.out 2, zB BK152.out 3, zB BK152.out 4, zB BK153.out 0, zB BK153.out 1, zB BK153.out 2, zB BK153.out 3, zB BK153.out 4, zB BK153.out 5, HS11_, HS12_, HS13_, HS14_⟩ (fun hHeld => ?_)
      clear hK K
      refine yA (a' := ?_) ?_ ?_
      rotate_left
      ·
       show Act.put _ (some 22) _ = _
       simp only [Act.put, List.setIfInBounds_toArray, List.set_cons_zero, List.set_cons_succ, zY, zZ]
       rfl
      refine one_ (i := 7) (N := some 23) #[true, true, true, true, true, true, true, true, true, true, true, true, true, false, false] rfl rfl (yB HT_.out (by kernel_rfl)) (by decide) (fun K hK => ?_)
      refine yD Try.func163 (by kernel_rfl) rfl #[.agg #[.int .i64 a0_0, .int .i64 a0_1, .int .i64 a0_2, .int .i64 a0_3, .slice A0_4 l0_4.length c0_4], .agg #[.int .i64 t158, .int .i64 t159]] (by rfl) rfl rfl (by (try simp only [List.map_toArray, List.map_cons, List.map_nil]); first | done | rfl) ?_
      with_reducible refine (xY.calls a0_0 a0_1 a0_2 a0_3 _ _ l0_4 t158 t159 t160 _ ?side1 ?side2 A12.out).mono ?_
      (case side1 => repeat (first | exact (Kd.C_below HR0_4.out HB.out) | (with_reducible refine Kd.C_alloc ?_ _) | (with_reducible refine Kd.C_drewN ?_ _) | (with_reducible refine Kd.C_drew ?_)))
      (case side2 => exact HC0_4.out)
      rintro e w18 ⟨rfl, hb⟩
      have HS11_ := (hb.cell (World.block_lt_of_cell? _ _ (hHeld.2.2.2.2.2.2.2.2.2.2.2.1))).trans (hHeld.2.2.2.2.2.2.2.2.2.2.2.1)
      have HS12_ := (hb.cell (World.block_lt_of_cell? _ _ (hHeld.2.2.2.2.2.2.2.2.2.2.2.2.1))).trans (hHeld.2.2.2.2.2.2.2.2.2.2.2.2.1)
      have HS13_ := (hb.cell (World.block_lt_of_cell? _ _ (hHeld.2.2.2.2.2.2.2.2.2.2.2.2.2.1))).trans (hHeld.2.2.2.2.2.2.2.2.2.2.2.2.2.1)
      have HS14_ := (hb.cell (World.block_lt_of_cell? _ _ (hHeld.2.2.2.2.2.2.2.2.2.2.2.2.2.2))).trans (hHeld.2.2.2.2.2.2.2.2.2.2.2.2.2.2)
      refine ⟨_, rfl, ?_⟩
      have n0_ := zC.mk (Kd.R_below (by (with_reducible repeat (first | apply Kd.R_alloc | apply Kd.R_drewN | apply Kd.R_drew)); exact HO_5.out) hb)
      have n1_ := zC.mk (zK (g := gb152) (o := .cells #[.int .i64 a0_0, .int .i64 a0_1, .int .i64 a0_2, .int .i64 a0_3, .slice A0_4 l0_4.length c0_4] 32 (0, 0)) (by (with_reducible repeat (first | refine zE ?_ _ | refine zI ?_ | refine zD ?_ _)); exact BK152.out) hb)
      have n2_ := zC.mk (zK (g := gb153) (o := .cells #[.int .i64 a1_0, .int .i64 a1_1, .int .i64 a1_2, .int .i64 a1_3, .int .i64 a1_4, .int .i64 a1_5] 52 (0, 0)) (by (with_reducible repeat (first | refine zE ?_ _ | refine zI ?_ | refine zD ?_ _)); exact BK153.out) hb)
      have n3_ := zC.mk (zL (by repeat (first | (with_reducible first | exact HB.out | apply zG | apply zA | apply zF | refine zH ?_ GE152.out | refine zH ?_ GE153.out) | exact HB.out)) hb)
      clear HO_5
      clear BK152
      clear BK153
      clear HB
      have HO_5 := n0_
      have BK152 := n1_
      have BK153 := n2_
      have HB := n3_
      clear n0_ n1_ n2_ n3_
      (try clear hb)
      refine hK.out _ _ ⟨zB BK152.out 0, zB BK152.out 1, zB BK152.out 2, zB BK152.out 3, zB BK152.out 4, zB BK153.out 0, zB BK153.out 1, zB BK153.out 2, zB BK153.out 3, zB BK153.out 4, zB BK153.out 5, HS11_, HS12_, HS13_, HS14_⟩ (fun hHeld => ?_)
      clear hK K
      refine yA (a' := ?_) ?_ ?_
      rotate_left
      ·
       show Act.put _ (some 23) _ = _
       simp only [Act.put, List.setIfInBounds_toArray, List.set_cons_zero, List.set_cons_succ, zY, zZ]
       rfl
      refine one_ (i := 13) (N := some 29) #[true, true, true, true, true, true, true, true, true, true, true, true, true, true, false] rfl rfl (yB HT_.out (by kernel_rfl)) (by decide) (fun K hK => ?_)
      refine yD Try.func163 (by kernel_rfl) rfl #[.agg #[.int .i64 a0_0, .int .i64 a0_1, .int .i64 a0_2, .int .i64 a0_3, .slice A0_4 l0_4.length c0_4], .agg #[.int .i64 ((rd_T50 t154 x6_1).f0), .int .i64 ((rd_T50 t154 x6_1).f1)]] (by rfl) rfl rfl (by (try simp only [List.map_toArray, List.map_cons, List.map_nil]); first | done | rfl) ?_
      with_reducible refine (xY.calls a0_0 a0_1 a0_2 a0_3 _ _ l0_4 ((rd_T50 t154 x6_1).f0) ((rd_T50 t154 x6_1).f1) t162 _ ?side1 ?side2 A13.out).mono ?_
      (case side1 => repeat (first | exact (Kd.C_below HR0_4.out HB.out) | (with_reducible refine Kd.C_alloc ?_ _) | (with_reducible refine Kd.C_drewN ?_ _) | (with_reducible refine Kd.C_drew ?_)))
      (case side2 => exact HC0_4.out)
      rintro e w19 ⟨rfl, hb⟩
      have HS11_ := (hb.cell (World.block_lt_of_cell? _ _ (hHeld.2.2.2.2.2.2.2.2.2.2.2.1))).trans (hHeld.2.2.2.2.2.2.2.2.2.2.2.1)
      have HS12_ := (hb.cell (World.block_lt_of_cell? _ _ (hHeld.2.2.2.2.2.2.2.2.2.2.2.2.1))).trans (hHeld.2.2.2.2.2.2.2.2.2.2.2.2.1)
      have HS13_ := (hb.cell (World.block_lt_of_cell? _ _ (hHeld.2.2.2.2.2.2.2.2.2.2.2.2.2.1))).trans (hHeld.2.2.2.2.2.2.2.2.2.2.2.2.2.1)
      have HS14_ := (hb.cell (World.block_lt_of_cell? _ _ (hHeld.2.2.2.2.2.2.2.2.2.2.2.2.2.2))).trans (hHeld.2.2.2.2.2.2.2.2.2.2.2.2.2.2)
      refine ⟨_, rfl, ?_⟩
      have n0_ := zC.mk (Kd.R_below (by (with_reducible repeat (first | apply Kd.R_alloc | apply Kd.R_drewN | apply Kd.R_drew)); exact HO_5.out) hb)
      have n1_ := zC.mk (zK (g := gb152) (o := .cells #[.int .i64 a0_0, .int .i64 a0_1, .int .i64 a0_2, .int .i64 a0_3, .slice A0_4 l0_4.length c0_4] 32 (0, 0)) (by (with_reducible repeat (first | refine zE ?_ _ | refine zI ?_ | refine zD ?_ _)); exact BK152.out) hb)
      have n2_ := zC.mk (zK (g := gb153) (o := .cells #[.int .i64 a1_0, .int .i64 a1_1, .int .i64 a1_2, .int .i64 a1_3, .int .i64 a1_4, .int .i64 a1_5] 52 (0, 0)) (by (with_reducible repeat (first | refine zE ?_ _ | refine zI ?_ | refine zD ?_ _)); exact BK153.out) hb)
      have n3_ := zC.mk (zL (by repeat (first | (with_reducible first | exact HB.out | apply zG | apply zA | apply zF | refine zH ?_ GE152.out | refine zH ?_ GE153.out) | exact HB.out)) hb)
      clear HO_5
      clear BK152
      clear BK153
      clear HB
      have HO_5 := n0_
      have BK152 := n1_
      have BK153 := n2_
      have HB := n3_
      clear n0_ n1_ n2_ n3_
      (try clear hb)
      refine hK.out _ _ ⟨zB BK152.out 0, zB BK152.out 1, zB BK152.out 2, zB BK152.out 3, zB BK152.out 4, zB BK153.out 0, zB BK153.out 1, zB BK153.out 2, zB BK153.out 3, zB BK153.out 4, zB BK153.out 5, HS11_, HS12_, HS13_, HS14_⟩ (fun hHeld => ?_)
      clear hK K
      refine yA (a' := ?_) ?_ ?_
      rotate_left
      ·
       show Act.put _ (some 29) _ = _
       simp only [Act.put, List.setIfInBounds_toArray, List.set_cons_zero, List.set_cons_succ, zY, zZ]
       rfl
      refine zR (i := 14) (N := some 30) (v := ?_) (a' := ?_) #[true, true, true, true, true, true, true, true, true, true, true, true, true, true, true] rfl rfl (zN HT_.out (by kernel_rfl)) (fun _ _ _ h => h) (Or.inl ⟨by rfl, ?_⟩) ?_ ?_
      rotate_left
      ·
       intro w'
       go_simp
       with_reducible rfl
      rotate_left
      ·
       simp only [Act.put, List.setIfInBounds_toArray, List.set_cons_zero, List.set_cons_succ, zY, zZ]
       rfl
      refine done_ (done_of HT_.out (by kernel_rfl)) ?_
      try go_wp2
      go_roundg k1
      case measure => have := HK1.out; omega
      case rel => exact ⟨(wrap64 (x6_1 + 1)), (by first | rfl | (simp; done) | (simp [*]; done)), H', ⟨by have := HK1.out; omega⟩, ⟨by (with_reducible repeat (first | apply Kd.R_alloc | apply Kd.R_drewN | apply Kd.R_drew)); exact HO_5.out⟩, ⟨by (with_reducible repeat (first | refine zE ?_ _ | refine zI ?_ | refine zD ?_ _)); exact BK152.out⟩, ⟨by (with_reducible repeat (first | refine zE ?_ _ | refine zI ?_ | refine zD ?_ _)); exact BK153.out⟩, ⟨by repeat (first | (with_reducible first | exact HB.out | apply zG | apply zA | apply zF | refine zH ?_ GE152.out | refine zH ?_ GE153.out) | exact HB.out)⟩⟩
     ·
      rw [if_neg c14] at H
      have c14b0 : (t160 == t162) = false := beq_eq_false_iff_ne.mpr c14
      have c14b1 : (t160 != t162) = true := bne_iff_ne.mpr c14
      obtain rfl := Option.some.inj H
      obtain ⟨Ao20, co20, eo20⟩ := Kd.R_slice HO_5.out
      subst eo20
      try go_wp2
      have n0_ := zC.mk (Kd.R_drew HO_5.out)
      have n1_ := zC.mk (zI BK152.out)
      have n2_ := zC.mk (zI BK153.out)
      have n3_ := zC.mk (zF HB.out)
      clear HO_5
      clear BK152
      clear BK153
      clear HB
      have HO_5 := n0_
      have BK152 := n1_
      have BK153 := n2_
      have HB := n3_
      clear n0_ n1_ n2_ n3_
      have p157 : 0 ≤ (x6_1 : Int) := of_decide_eq_true (by first | (with_reducible assumption) | assumption)
      have q157 : x6_1 < (t154.length : Int) := of_decide_eq_true (by first | (with_reducible assumption) | assumption)
      obtain ⟨ad157, e157, hx157_0, hx157_1⟩ := at_T50 (Kd.R_reads' HO_5.out).2.2 x6_1 p157 q157
      cases e157
      replace p157 := eq_true p157
      replace q157 := eq_true q157
      have p161 : 0 ≤ (x6_1 : Int) := of_decide_eq_true (by first | (with_reducible assumption) | assumption)
      have q161 : x6_1 < (t154.length : Int) := of_decide_eq_true (by first | (with_reducible assumption) | assumption)
      obtain ⟨ad161, e161, hx161_0, hx161_1⟩ := at_T50 (Kd.R_reads' HO_5.out).2.2 x6_1 p161 q161
      obtain rfl : ad157 = ad161 := (by injection e161)
      replace p161 := eq_true p161
      replace q161 := eq_true q161
      refine start_ (n := 15) (S := fun w' => w'.cell? ⟨gb152, 0, none⟩ = some (.int .i64 a0_0) ∧ w'.cell? ⟨gb152, 1, none⟩ = some (.int .i64 a0_1) ∧ w'.cell? ⟨gb152, 2, none⟩ = some (.int .i64 a0_2) ∧ w'.cell? ⟨gb152, 3, none⟩ = some (.int .i64 a0_3) ∧ w'.cell? ⟨gb152, 4, none⟩ = some (.slice A0_4 l0_4.length c0_4) ∧ w'.cell? ⟨gb153, 0, none⟩ = some (.int .i64 a1_0) ∧ w'.cell? ⟨gb153, 1, none⟩ = some (.int .i64 a1_1) ∧ w'.cell? ⟨gb153, 2, none⟩ = some (.int .i64 a1_2) ∧ w'.cell? ⟨gb153, 3, none⟩ = some (.int .i64 a1_3) ∧ w'.cell? ⟨gb153, 4, none⟩ = some (.int .i64 a1_4) ∧ w'.cell? ⟨gb153, 5, none⟩ = some (.int .i64 a1_5) ∧ w'.cell? (ad157.add ((x6_1).toNat * 2)) = some (.int .i64 ((rd_T50 t154 x6_1).f0)) ∧ w'.cell? ⟨(ad157.add ((x6_1).toNat * 2)).block, (ad157.add ((x6_1).toNat * 2)).off + 1, none⟩ = some (.int .i64 ((rd_T50 t154 x6_1).f1)) ∧ w'.cell? (ad157.add ((x6_1).toNat * 2)) = some (.int .i64 ((rd_T50 t154 x6_1).f0)) ∧ w'.cell? ⟨(ad157.add ((x6_1).toNat * 2)).block, (ad157.add ((x6_1).toNat * 2)).off + 1, none⟩ = some (.int .i64 ((rd_T50 t154 x6_1).f1))) (ds := []) #[false, false, false, false, false, false, false, false, false, false, false, false, false, false, false] (by kernel_rfl) rfl rfl ⟨zB BK152.out 0, zB BK152.out 1, zB BK152.out 2, zB BK152.out 3, zB BK152.out 4, zB BK153.out 0, zB BK153.out 1, zB BK153.out 2, zB BK153.out 3, zB BK153.out 4, zB BK153.out 5, hx157_0, hx157_1, hx161_0, hx161_1⟩ (fun hHeld => ?_); refine yE yW.tab5 yW.bits5 (fun HT_ HW_ => ?_)
      generalize wr.drew = w21 at HO_5 BK152 BK153 HB hx157_0 hx157_1 hx161_0 hx161_1 hHeld ⊢
      refine zR (i := 2) (N := some 18) (v := ?_) (a' := ?_) #[false, false, true, false, false, false, false, false, false, false, false, false, false, false, false] rfl rfl (zN HT_.out (by kernel_rfl)) (fun _ _ _ h => h) (Or.inl ⟨by rfl, ?_⟩) ?_ ?_
      rotate_left
      ·
       intro w'
       go_simp
       with_reducible rfl
      rotate_left
      ·
       simp only [Act.put, List.setIfInBounds_toArray, List.set_cons_zero, List.set_cons_succ, zY, zZ]
       rfl
      refine zR (i := 3) (N := some 19) (v := ?_) (a' := ?_) #[false, false, true, true, false, false, false, false, false, false, false, false, false, false, false] rfl rfl (zN HT_.out (by kernel_rfl)) (fun _ _ _ h => h) (Or.inl ⟨by rfl, ?_⟩) ?_ ?_
      rotate_left
      ·
       intro w'
       go_simp
       with_reducible rfl
      rotate_left
      ·
       simp only [Act.put, List.setIfInBounds_toArray, List.set_cons_zero, List.set_cons_succ, zY, zZ]
       rfl
      refine zR (i := 4) (N := some 20) (v := ?_) (a' := ?_) #[false, false, true, true, true, false, false, false, false, false, false, false, false, false, false] rfl rfl (zN HT_.out (by kernel_rfl)) (fun _ _ _ h => h) (Or.inl ⟨by rfl, ?_⟩) ?_ ?_
      rotate_left
      ·
       intro w'
       go_simp
       with_reducible rfl
      rotate_left
      ·
       simp only [Act.put, List.setIfInBounds_toArray, List.set_cons_zero, List.set_cons_succ, zY, zZ]
       rfl
      refine zR (i := 9) (N := some 25) (v := ?_) (a' := ?_) #[false, false, true, true, true, false, false, false, false, true, false, false, false, false, false] rfl rfl (zN HT_.out (by kernel_rfl)) (fun _ _ _ h => h) (Or.inl ⟨by rfl, ?_⟩) ?_ ?_
      rotate_left
      ·
       intro w'
       go_simp
       with_reducible rfl
      rotate_left
      ·
       simp only [Act.put, List.setIfInBounds_toArray, List.set_cons_zero, List.set_cons_succ, zY, zZ]
       rfl
      refine zR (i := 10) (N := some 26) (v := ?_) (a' := ?_) #[false, false, true, true, true, false, false, false, false, true, true, false, false, false, false] rfl rfl (zN HT_.out (by kernel_rfl)) (fun _ _ _ h => h) (Or.inl ⟨by rfl, ?_⟩) ?_ ?_
      rotate_left
      ·
       intro w'
       go_simp
       with_reducible rfl
      rotate_left
      ·
       simp only [Act.put, List.setIfInBounds_toArray, List.set_cons_zero, List.set_cons_succ, zY, zZ]
       rfl
      refine zR (i := 11) (N := some 27) (v := ?_) (a' := ?_) #[false, false, true, true, true, false, false, false, false, true, true, true, false, false, false] rfl rfl (zN HT_.out (by kernel_rfl)) (fun _ _ _ h => h) (Or.inl ⟨by rfl, ?_⟩) ?_ ?_
      rotate_left
      ·
       intro w'
       go_simp
       with_reducible rfl
      rotate_left
      ·
       simp only [Act.put, List.setIfInBounds_toArray, List.set_cons_zero, List.set_cons_succ, zY, zZ]
       rfl
      refine yC (i := 0) (N := some 16) (v := ?_) (a' := ?_) #[true, false, true, true, true, false, false, false, false, true, true, true, false, false, false] rfl rfl (zW HT_.out HW_.out (by kernel_rfl)) (fun _ _ _ h => h) (Or.inl ⟨by rfl, ?_⟩) hHeld ?_ ?_
      rotate_left
      ·
       rintro w' ⟨s0, s1, s2, s3, s4, s5, s6, s7, s8, s9, s10, s11, s12, s13, s14⟩
       go_simp
       with_reducible rfl
      rotate_left
      ·
       simp only [Act.put, List.setIfInBounds_toArray, List.set_cons_zero, List.set_cons_succ, zY, zZ]
       rfl
      refine yC (i := 1) (N := some 17) (v := ?_) (a' := ?_) #[true, true, true, true, true, false, false, false, false, true, true, true, false, false, false] rfl rfl (zW HT_.out HW_.out (by kernel_rfl)) (fun _ _ _ h => h) (Or.inl ⟨by rfl, ?_⟩) hHeld ?_ ?_
      rotate_left
      ·
       rintro w' ⟨s0, s1, s2, s3, s4, s5, s6, s7, s8, s9, s10, s11, s12, s13, s14⟩
       go_simp
       with_reducible rfl
      rotate_left
      ·
       simp only [Act.put, List.setIfInBounds_toArray, List.set_cons_zero, List.set_cons_succ, zY, zZ]
       rfl
      refine yC (i := 5) (N := some 21) (v := ?_) (a' := ?_) #[true, true, true, true, true, true, false, false, false, true, true, true, false, false, false] rfl rfl (zW HT_.out HW_.out (by kernel_rfl)) (fun _ _ _ h => h) (Or.inl ⟨by rfl, ?_⟩) hHeld ?_ ?_
      rotate_left
      ·
       rintro w' ⟨s0, s1, s2, s3, s4, s5, s6, s7, s8, s9, s10, s11, s12, s13, s14⟩
       go_simp
       with_reducible rfl
      rotate_left
      ·
       simp only [Act.put, List.setIfInBounds_toArray, List.set_cons_zero, List.set_cons_succ, zY, zZ]
       rfl
      refine yC (i := 8) (N := some 24) (v := ?_) (a' := ?_) #[true, true, true, true, true, true, false, false, true, true, true, true, false, false, false] rfl rfl (zW HT_.out HW_.out (by kernel_rfl)) (fun _ _ _ h => h) (Or.inl ⟨by rfl, ?_⟩) hHeld ?_ ?_
      rotate_left
      ·
       rintro w' ⟨s0, s1, s2, s3, s4, s5, s6, s7, s8, s9, s10, s11, s12, s13, s14⟩
       go_simp
       with_reducible rfl
      rotate_left
      ·
       simp only [Act.put, List.setIfInBounds_toArray, List.set_cons_zero, List.set_cons_succ, zY, zZ]
       rfl
      refine yC (i := 12) (N := some 28) (v := ?_) (a' := ?_) #[true, true, true, true, true, true, false, false, true, true, true, true, true, false, false] rfl rfl (zW HT_.out HW_.out (by kernel_rfl)) (fun _ _ _ h => h) (Or.inl ⟨by rfl, ?_⟩) hHeld ?_ ?_
      rotate_left
      ·
       rintro w' ⟨s0, s1, s2, s3, s4, s5, s6, s7, s8, s9, s10, s11, s12, s13, s14⟩
       go_simp
       with_reducible rfl
      rotate_left
      ·
       simp only [Act.put, List.setIfInBounds_toArray, List.set_cons_zero, List.set_cons_succ, zY, zZ]
       rfl
      refine one_ (i := 6) (N := some 22) #[true, true, true, true, true, true, true, false, true, true, true, true, true, false, false] rfl rfl (yB HT_.out (by kernel_rfl)) (by decide) (fun K hK => ?_)
      refine yD Try.func104 (by kernel_rfl) rfl #[.agg #[.int .i64 a1_0, .int .i64 a1_1, .int .i64 a1_2, .int .i64 a1_3, .int .i64 a1_4, .int .i64 a1_5], .agg #[.int .i64 ((rd_T50 t154 x6_1).f0), .int .i64 ((rd_T50 t154 x6_1).f1)]] (by rfl) rfl rfl (by (try simp only [List.map_toArray, List.map_cons, List.map_nil]); first | done | rfl) ?_
      with_reducible refine (xZ.calls a1_0 a1_1 a1_2 a1_3 a1_4 a1_5 ((rd_T50 t154 x6_1).f0) ((rd_T50 t154 x6_1).f1) t158 t159 _ A11.out).mono ?_
      rintro e w22 ⟨rfl, hb⟩
      have HS11_ := (hb.cell (World.block_lt_of_cell? _ _ (hHeld.2.2.2.2.2.2.2.2.2.2.2.1))).trans (hHeld.2.2.2.2.2.2.2.2.2.2.2.1)
      have HS12_ := (hb.cell (World.block_lt_of_cell? _ _ (hHeld.2.2.2.2.2.2.2.2.2.2.2.2.1))).trans (hHeld.2.2.2.2.2.2.2.2.2.2.2.2.1)
      have HS13_ := (hb.cell (World.block_lt_of_cell? _ _ (hHeld.2.2.2.2.2.2.2.2.2.2.2.2.2.1))).trans (hHeld.2.2.2.2.2.2.2.2.2.2.2.2.2.1)
      have HS14_ := (hb.cell (World.block_lt_of_cell? _ _ (hHeld.2.2.2.2.2.2.2.2.2.2.2.2.2.2))).trans (hHeld.2.2.2.2.2.2.2.2.2.2.2.2.2.2)
      refine ⟨_, rfl, ?_⟩
      have n0_ := zC.mk (Kd.R_below (by (with_reducible repeat (first | apply Kd.R_alloc | apply Kd.R_drewN | apply Kd.R_drew)); exact HO_5.out) hb)
      have n1_ := zC.mk (zK (g := gb152) (o := .cells #[.int .i64 a0_0, .int .i64 a0_1, .int .i64 a0_2, .int .i64 a0_3, .slice A0_4 l0_4.length c0_4] 32 (0, 0)) (by (with_reducible repeat (first | refine zE ?_ _ | refine zI ?_ | refine zD ?_ _)); exact BK152.out) hb)
      have n2_ := zC.mk (zK (g := gb153) (o := .cells #[.int .i64 a1_0, .int .i64 a1_1, .int .i64 a1_2, .int .i64 a1_3, .int .i64 a1_4, .int .i64 a1_5] 52 (0, 0)) (by (with_reducible repeat (first | refine zE ?_ _ | refine zI ?_ | refine zD ?_ _)); exact BK153.out) hb)
      have n3_ := zC.mk (zL (by repeat (first | (with_reducible first | exact HB.out | apply zG | apply zA | apply zF | refine zH ?_ GE152.out | refine zH ?_ GE153.out) | exact HB.out)) hb)
      clear HO_5
      clear BK152
      clear BK153
      clear HB
      have HO_5 := n0_
      have BK152 := n1_
      have BK153 := n2_
      have HB := n3_
      clear n0_ n1_ n2_ n3_
      (try clear hb)
      refine hK.out _ _ ⟨zB BK152.out 0, zB BK152.out 1, zB BK152.out 2, zB BK152.out 3, zB BK152.out 4, zB BK153.out 0, zB BK153.out 1, zB BK153.out 2, zB BK153.out 3, zB BK153.out 4, zB BK153.out 5, HS11_, HS12_, HS13_, HS14_⟩ (fun hHeld => ?_)
      clear hK K
      refine yA (a' := ?_) ?_ ?_
      rotate_left
      ·
       show Act.put _ (some 22) _ = _
       simp only [Act.put, List.setIfInBounds_toArray, List.set_cons_zero, List.set_cons_succ, zY, zZ]
       rfl
      refine one_ (i := 7) (N := some 23) #[true, true, true, true, true, true, true, true, true, true, true, true, true, false, false] rfl rfl (yB HT_.out (by kernel_rfl)) (by decide) (fun K hK => ?_)
      refine yD Try.func163 (by kernel_rfl) rfl #[.agg #[.int .i64 a0_0, .int .i64 a0_1, .int .i64 a0_2, .int .i64 a0_3, .slice A0_4 l0_4.length c0_4], .agg #[.int .i64 t158, .int .i64 t159]] (by rfl) rfl rfl (by (try simp only [List.map_toArray, List.map_cons, List.map_nil]); first | done | rfl) ?_
      with_reducible refine (xY.calls a0_0 a0_1 a0_2 a0_3 _ _ l0_4 t158 t159 t160 _ ?side1 ?side2 A12.out).mono ?_
      (case side1 => repeat (first | exact (Kd.C_below HR0_4.out HB.out) | (with_reducible refine Kd.C_alloc ?_ _) | (with_reducible refine Kd.C_drewN ?_ _) | (with_reducible refine Kd.C_drew ?_)))
      (case side2 => exact HC0_4.out)
      rintro e w23 ⟨rfl, hb⟩
      have HS11_ := (hb.cell (World.block_lt_of_cell? _ _ (hHeld.2.2.2.2.2.2.2.2.2.2.2.1))).trans (hHeld.2.2.2.2.2.2.2.2.2.2.2.1)
      have HS12_ := (hb.cell (World.block_lt_of_cell? _ _ (hHeld.2.2.2.2.2.2.2.2.2.2.2.2.1))).trans (hHeld.2.2.2.2.2.2.2.2.2.2.2.2.1)
      have HS13_ := (hb.cell (World.block_lt_of_cell? _ _ (hHeld.2.2.2.2.2.2.2.2.2.2.2.2.2.1))).trans (hHeld.2.2.2.2.2.2.2.2.2.2.2.2.2.1)
      have HS14_ := (hb.cell (World.block_lt_of_cell? _ _ (hHeld.2.2.2.2.2.2.2.2.2.2.2.2.2.2))).trans (hHeld.2.2.2.2.2.2.2.2.2.2.2.2.2.2)
      refine ⟨_, rfl, ?_⟩
      have n0_ := zC.mk (Kd.R_below (by (with_reducible repeat (first | apply Kd.R_alloc | apply Kd.R_drewN | apply Kd.R_drew)); exact HO_5.out) hb)
      have n1_ := zC.mk (zK (g := gb152) (o := .cells #[.int .i64 a0_0, .int .i64 a0_1, .int .i64 a0_2, .int .i64 a0_3, .slice A0_4 l0_4.length c0_4] 32 (0, 0)) (by (with_reducible repeat (first | refine zE ?_ _ | refine zI ?_ | refine zD ?_ _)); exact BK152.out) hb)
      have n2_ := zC.mk (zK (g := gb153) (o := .cells #[.int .i64 a1_0, .int .i64 a1_1, .int .i64 a1_2, .int .i64 a1_3, .int .i64 a1_4, .int .i64 a1_5] 52 (0, 0)) (by (with_reducible repeat (first | refine zE ?_ _ | refine zI ?_ | refine zD ?_ _)); exact BK153.out) hb)
      have n3_ := zC.mk (zL (by repeat (first | (with_reducible first | exact HB.out | apply zG | apply zA | apply zF | refine zH ?_ GE152.out | refine zH ?_ GE153.out) | exact HB.out)) hb)
      clear HO_5
      clear BK152
      clear BK153
      clear HB
      have HO_5 := n0_
      have BK152 := n1_
      have BK153 := n2_
      have HB := n3_
      clear n0_ n1_ n2_ n3_
      (try clear hb)
      refine hK.out _ _ ⟨zB BK152.out 0, zB BK152.out 1, zB BK152.out 2, zB BK152.out 3, zB BK152.out 4, zB BK153.out 0, zB BK153.out 1, zB BK153.out 2, zB BK153.out 3, zB BK153.out 4, zB BK153.out 5, HS11_, HS12_, HS13_, HS14_⟩ (fun hHeld => ?_)
      clear hK K
      refine yA (a' := ?_) ?_ ?_
      rotate_left
      ·
       show Act.put _ (some 23) _ = _
       simp only [Act.put, List.setIfInBounds_toArray, List.set_cons_zero, List.set_cons_succ, zY, zZ]
       rfl
      refine one_ (i := 13) (N := some 29) #[true, true, true, true, true, true, true, true, true, true, true, true, true, true, false] rfl rfl (yB HT_.out (by kernel_rfl)) (by decide) (fun K hK => ?_)
      refine yD Try.func163 (by kernel_rfl) rfl #[.agg #[.int .i64 a0_0, .int .i64 a0_1, .int .i64 a0_2, .int .i64 a0_3, .slice A0_4 l0_4.length c0_4], .agg #[.int .i64 ((rd_T50 t154 x6_1).f0), .int .i64 ((rd_T50 t154 x6_1).f1)]] (by rfl) rfl rfl (by (try simp only [List.map_toArray, List.map_cons, List.map_nil]); first | done | rfl) ?_
      with_reducible refine (xY.calls a0_0 a0_1 a0_2 a0_3 _ _ l0_4 ((rd_T50 t154 x6_1).f0) ((rd_T50 t154 x6_1).f1) t162 _ ?side1 ?side2 A13.out).mono ?_
      (case side1 => repeat (first | exact (Kd.C_below HR0_4.out HB.out) | (with_reducible refine Kd.C_alloc ?_ _) | (with_reducible refine Kd.C_drewN ?_ _) | (with_reducible refine Kd.C_drew ?_)))
      (case side2 => exact HC0_4.out)
      rintro e w24 ⟨rfl, hb⟩
      have HS11_ := (hb.cell (World.block_lt_of_cell? _ _ (hHeld.2.2.2.2.2.2.2.2.2.2.2.1))).trans (hHeld.2.2.2.2.2.2.2.2.2.2.2.1)
      have HS12_ := (hb.cell (World.block_lt_of_cell? _ _ (hHeld.2.2.2.2.2.2.2.2.2.2.2.2.1))).trans (hHeld.2.2.2.2.2.2.2.2.2.2.2.2.1)
      have HS13_ := (hb.cell (World.block_lt_of_cell? _ _ (hHeld.2.2.2.2.2.2.2.2.2.2.2.2.2.1))).trans (hHeld.2.2.2.2.2.2.2.2.2.2.2.2.2.1)
      have HS14_ := (hb.cell (World.block_lt_of_cell? _ _ (hHeld.2.2.2.2.2.2.2.2.2.2.2.2.2.2))).trans (hHeld.2.2.2.2.2.2.2.2.2.2.2.2.2.2)
      refine ⟨_, rfl, ?_⟩
      have n0_ := zC.mk (Kd.R_below (by (with_reducible repeat (first | apply Kd.R_alloc | apply Kd.R_drewN | apply Kd.R_drew)); exact HO_5.out) hb)
      have n1_ := zC.mk (zK (g := gb152) (o := .cells #[.int .i64 a0_0, .int .i64 a0_1, .int .i64 a0_2, .int .i64 a0_3, .slice A0_4 l0_4.length c0_4] 32 (0, 0)) (by (with_reducible repeat (first | refine zE ?_ _ | refine zI ?_ | refine zD ?_ _)); exact BK152.out) hb)
      have n2_ := zC.mk (zK (g := gb153) (o := .cells #[.int .i64 a1_0, .int .i64 a1_1, .int .i64 a1_2, .int .i64 a1_3, .int .i64 a1_4, .int .i64 a1_5] 52 (0, 0)) (by (with_reducible repeat (first | refine zE ?_ _ | refine zI ?_ | refine zD ?_ _)); exact BK153.out) hb)
      have n3_ := zC.mk (zL (by repeat (first | (with_reducible first | exact HB.out | apply zG | apply zA | apply zF | refine zH ?_ GE152.out | refine zH ?_ GE153.out) | exact HB.out)) hb)
      clear HO_5
      clear BK152
      clear BK153
      clear HB
      have HO_5 := n0_
      have BK152 := n1_
      have BK153 := n2_
      have HB := n3_
      clear n0_ n1_ n2_ n3_
      (try clear hb)
      refine hK.out _ _ ⟨zB BK152.out 0, zB BK152.out 1, zB BK152.out 2, zB BK152.out 3, zB BK152.out 4, zB BK153.out 0, zB BK153.out 1, zB BK153.out 2, zB BK153.out 3, zB BK153.out 4, zB BK153.out 5, HS11_, HS12_, HS13_, HS14_⟩ (fun hHeld => ?_)
      clear hK K
      refine yA (a' := ?_) ?_ ?_
      rotate_left
      ·
       show Act.put _ (some 29) _ = _
       simp only [Act.put, List.setIfInBounds_toArray, List.set_cons_zero, List.set_cons_succ, zY, zZ]
       rfl
      refine zR (i := 14) (N := some 30) (v := ?_) (a' := ?_) #[true, true, true, true, true, true, true, true, true, true, true, true, true, true, true] rfl rfl (zN HT_.out (by kernel_rfl)) (fun _ _ _ h => h) (Or.inl ⟨by rfl, ?_⟩) ?_ ?_
      rotate_left
      ·
       intro w'
       go_simp
       with_reducible rfl
      rotate_left
      ·
       simp only [Act.put, List.setIfInBounds_toArray, List.set_cons_zero, List.set_cons_succ, zY, zZ]
       rfl
      refine done_ (done_of HT_.out (by kernel_rfl)) ?_
      try go_wp2
      go_ret
      exact ⟨by first | rfl | (simp [*, errW_none, errW_some] <;> rfl), by repeat (first | (with_reducible first | exact HB.out | apply zG | apply zA | apply zF | refine zH ?_ GE152.out | refine zH ?_ GE153.out) | exact HB.out)⟩
    ·
     rw [if_neg c10] at H
     exact absurd H (by simp)
   ·
    rw [if_neg c9] at H
    have c9b0 : decide (x6_1 < (t154.length : Int)) = false := decide_eq_false c9
    clear c9
    obtain rfl := Option.some.inj H
    obtain ⟨Ao25, co25, eo25⟩ := Kd.R_slice HO_5.out
    subst eo25
    go_wp2
    go_ret
    exact ⟨by first | rfl | (simp [*, errW_none, errW_some] <;> rfl), by repeat (first | (with_reducible first | exact HB.out | apply zG | apply zA | apply zF | refine zH ?_ GE152.out | refine zH ?_ GE153.out) | exact HB.out)⟩
theorem wY.calls  (r1 : Int) (r2 : Int) (r3 : Int) (r4 : Int) (w : World) (h : wY.f  = some (r1, r2, r3, r4)) :
  Calls Try.prog 129 #[] w fun e w' => e = .returned (.agg #[.int .i64 r1, .int .i64 r2, .int .i64 r3, .int .i64 r4]) ∧ Below w.heap.size w w' := by
 have hu49 := Try.underlying49
 have HB := zC.mk (Below.refl w.heap.size w)
 have H : (some (1, 0, 0, 1)) = some (r1, r2, r3, r4) := h
 clear h
 simp only [Option.some.injEq, Prod.mk.injEq] at H
 obtain ⟨rfl, rfl, rfl, rfl⟩ := H
 go_enter Try.func129, Try.ntmps129
 go_wp2_with (first | ((with_reducible refine zQ (N := 0) rfl ?_); refine zO ?hg (N := 0) ?hd (cs := #[.int .i64 0, .int .i64 0, .int .i64 0, .int .i64 0]) (t := 49) ?hr ?_; (case hd => rfl); (case hg => rfl); (case hr => first | (go_simp; done) | (go_simp; rfl)); intro gb163 hg w1 hbox hb; have n0_ := zC.mk (zL (by repeat (first | (with_reducible first | exact HB.out | apply zG | apply zA | apply zF) | exact HB.out)) hb); have n1_ := zC.mk (hbox); have n2_ := zC.mk ((by rw [hg]; exact (zM (by repeat (first | (with_reducible first | exact HB.out | apply zG | apply zA | apply zF) | exact HB.out))) : w.heap.size ≤ gb163)); have n3_ := n2_; clear HB; have HB := n0_; have BK163 := n1_; have GW163 := n2_; have GE163 := n3_; clear n0_ n1_ n2_ n3_; clear hb hbox hg; have hcz2_0 : w1.cell? ⟨gb163, 0, none⟩ = some (.int .i64 0) := zB BK163.out 0; have hcz2_1 : w1.cell? ⟨gb163, 1, none⟩ = some (.int .i64 0) := zB BK163.out 1; have hcz2_2 : w1.cell? ⟨gb163, 2, none⟩ = some (.int .i64 0) := zB BK163.out 2; have hcz2_3 : w1.cell? ⟨gb163, 3, none⟩ = some (.int .i64 0) := zB BK163.out 3; have hfz2_0 := zJ BK163.out 0; have hfz2_1 := zJ BK163.out 1; have hfz2_2 := zJ BK163.out 2; have hfz2_3 := zJ BK163.out 3))
 refine bodyPost_ret (results_cell_row rfl _ _ gb163 49 #[.int .i64 1, .int .i64 0, .int .i64 0, .int .i64 1] (0, 0) _ rfl (by (with_reducible repeat (first | refine zE ?_ _ | refine zI ?_ | refine zD ?_ _)); refine zS (cs := #[.int .i64 1, .int .i64 0, .int .i64 0, .int .i64 0]) ?_ 3 _ rfl; (with_reducible repeat (first | refine zE ?_ _ | refine zI ?_ | refine zD ?_ _)); refine zS (cs := #[.int .i64 1, .int .i64 0, .int .i64 0, .int .i64 0]) ?_ 2 _ rfl; (with_reducible repeat (first | refine zE ?_ _ | refine zI ?_ | refine zD ?_ _)); refine zS (cs := #[.int .i64 1, .int .i64 0, .int .i64 0, .int .i64 0]) ?_ 1 _ rfl; (with_reducible repeat (first | refine zE ?_ _ | refine zI ?_ | refine zD ?_ _)); refine zS (cs := #[.int .i64 0, .int .i64 0, .int .i64 0, .int .i64 0]) ?_ 0 _ rfl; (with_reducible repeat (first | refine zE ?_ _ | refine zI ?_ | refine zD ?_ _)); exact BK163.out) Try.underlying49 rfl (by kernel_rfl)) rfl ?_
 exact ⟨by first | rfl | (simp [*, errW_none, errW_some] <;> rfl), by repeat (first | (with_reducible first | exact HB.out | apply zG | apply zA | apply zF | refine zH ?_ GE163.out) | exact HB.out)⟩
theorem xG.calls (k : Nat) : ∀ (a0 : Int) (a1 : Int) (r : Int) (w : World) (h : xG.f k a0 a1 = some r),
  Calls Try.prog 164 #[.int .i64 a0, .int .i64 a1] w fun e w' => e = .returned (.int .i64 r) ∧ Below w.heap.size w w' := by
 induction k using Nat.strongRecOn with
 | _ k ih =>
 intro a0 a1 r w h
 cases k with
 | zero => exact absurd h (by simp [xG.f])
 | succ k =>
 simp only [xG.f] at h
 have HB := zC.mk (Below.refl w.heap.size w)
 have H : (if a1 = 0 then (some (mx a0 (wrap64 (-a0)))) else ((xG.f k a1 (Int.tmod a0 a1)).bind fun t164 => (some t164))) = some r := h
 clear h
 by_cases c3 : a1 = 0
 ·
  rw [if_pos c3] at H
  have c3b0 : (a1 == 0) = true := beq_iff_eq.mpr c3
  have c3b1 : (a1 != 0) = false := bne_eq_false_iff_eq.mpr c3
  clear c3
  obtain ⟨ji4, hji4⟩ : ∃ j_ : Int, (mx a0 (wrap64 (-a0))) = j_ := ⟨_, rfl⟩
  replace H : (some ji4) = some r := by first | (rw [hji4] at H; exact H) | (simp only [hji4] at H ⊢; exact H)
  have hji4_ : (if a0 < (wrap64 (-a0)) then (wrap64 (-a0)) else a0) = ji4 := hji4
  obtain rfl := Option.some.inj H
  go_enter Try.func164, Try.ntmps164
  go_wp2
  go_ret
  exact ⟨by first | rfl | (simp [errW_none, errW_some] <;> rfl) | (simp only [← hji4]; first | rfl | (simp [errW_none, errW_some] <;> rfl)) | (simp [*, errW_none, errW_some] <;> rfl), by repeat (first | (with_reducible first | exact HB.out | apply zG | apply zA | apply zF) | exact HB.out)⟩
 ·
  rw [if_neg c3] at H
  have c3b0 : (a1 == 0) = false := beq_eq_false_iff_ne.mpr c3
  have c3b1 : (a1 != 0) = true := bne_iff_ne.mpr c3
  replace H := Option.bind_eq_some_iff.mp H
  obtain ⟨t164, A50, H⟩ := H
  replace H : (some t164) = some r := H
  have A5 := zC.mk A50
  clear A50
  obtain rfl := Option.some.inj H
  go_enter Try.func164, Try.ntmps164
  go_wp2_with (first | ((with_reducible refine zP (f := 164) rfl ?_); refine zX (some 15) rfl rfl Try.func164 (by kernel_rfl) rfl #[.int .i64 a1, .int .i64 (Int.tmod a0 a1)] rfl (by (try simp only [List.map_toArray, List.map_cons, List.map_nil]); first | done | rfl) ?_; (with_reducible refine (ih k (by omega) a1 (Int.tmod a0 a1) t164 _ A5.out).mono ?_); rintro e w6 ⟨rfl, hb⟩; refine ⟨_, rfl, ?_⟩; have n0_ := zC.mk (zL (by repeat (first | (with_reducible first | exact HB.out | apply zG | apply zA | apply zF) | exact HB.out)) hb); clear HB; have HB := n0_; clear n0_; (try clear hb)))
  go_ret
  exact ⟨by first | rfl | (simp [*, errW_none, errW_some] <;> rfl), by repeat (first | (with_reducible first | exact HB.out | apply zG | apply zA | apply zF) | exact HB.out)⟩
theorem wV.calls (a0_0 : Int) (a0_1 : Int) (a1 : Int) (r1 : Int) (r2 : Int) (w : World) (h : wV.f a0_0 a0_1 a1 = some (r1, r2)) :
  Calls Try.prog 165 #[.agg #[.int .i64 a0_0, .int .i64 a0_1], .int .i64 a1] w fun e w' => e = .returned (.agg #[.int .i64 r1, .int .i64 r2]) ∧ Below w.heap.size w w' := by
 have hu50 := Try.underlying50
 have HB := zC.mk (Below.refl w.heap.size w)
 have H : (some (wrap64 (a1 * a0_0), wrap64 (a1 * a0_1))) = some (r1, r2) := h
 clear h
 simp only [Option.some.injEq, Prod.mk.injEq] at H
 obtain ⟨rfl, rfl⟩ := H
 go_enter Try.func165, Try.ntmps165
 go_wp2_with (first | ((with_reducible refine zQ (N := 2) rfl ?_); refine zO ?hg (N := 2) ?hd (cs := #[.int .i64 a0_0, .int .i64 a0_1]) (t := 50) ?hr ?_; (case hd => rfl); (case hg => rfl); (case hr => first | (go_simp; done) | (go_simp; rfl)); intro gb165 hg w3 hbox hb; have n0_ := zC.mk (zL (by repeat (first | (with_reducible first | exact HB.out | apply zG | apply zA | apply zF) | exact HB.out)) hb); have n1_ := zC.mk (hbox); have n2_ := zC.mk ((by rw [hg]; exact (zM (by repeat (first | (with_reducible first | exact HB.out | apply zG | apply zA | apply zF) | exact HB.out))) : w.heap.size ≤ gb165)); have n3_ := n2_; clear HB; have HB := n0_; have BK165 := n1_; have GW165 := n2_; have GE165 := n3_; clear n0_ n1_ n2_ n3_; clear hb hbox hg) | ((with_reducible refine zQ (N := 4) rfl ?_); refine zO ?hg (N := 4) ?hd (cs := #[.int .i64 0, .int .i64 0]) (t := 50) ?hr ?_; (case hd => rfl); (case hg => rfl); (case hr => first | (go_simp; done) | (go_simp; rfl)); intro gb166 hg w4 hbox hb; have n0_ := zC.mk (zK (g := gb165) (o := .cells #[.int .i64 a0_0, .int .i64 a0_1] 50 (0, 0)) (by (with_reducible repeat (first | refine zE ?_ _ | refine zI ?_ | refine zD ?_ _)); exact BK165.out) hb); have n1_ := zC.mk (zL (by repeat (first | (with_reducible first | exact HB.out | apply zG | apply zA | apply zF | refine zH ?_ GE165.out) | exact HB.out)) hb); have n2_ := zC.mk (hbox); have n3_ := zC.mk ((by rw [hg]; exact (zM (by repeat (first | (with_reducible first | exact HB.out | apply zG | apply zA | apply zF | refine zH ?_ GE165.out) | exact HB.out))) : w.heap.size ≤ gb166)); have n4_ := n3_; have n5_ := zC.mk ((by rw [hg]; exact Nat.ne_of_lt (zV (by (with_reducible repeat (first | refine zE ?_ _ | refine zI ?_ | refine zD ?_ _)); exact BK165.out)) : gb165 ≠ gb166)); have n6_ := zC.mk n5_.out.symm; clear BK165; clear HB; have BK165 := n0_; have HB := n1_; have BK166 := n2_; have GW166 := n3_; have GE166 := n4_; have NB165_166 := n5_; have NB166_165 := n6_; clear n0_ n1_ n2_ n3_ n4_ n5_ n6_; clear hb hbox hg; have hnb5 := NB165_166.out; have hnc5 := NB166_165.out; have hcz6_0 : w4.cell? ⟨gb165, 0, none⟩ = some (.int .i64 a0_0) := zB BK165.out 0; have hcz6_1 : w4.cell? ⟨gb165, 1, none⟩ = some (.int .i64 a0_1) := zB BK165.out 1; have hfz6_0 := zJ BK165.out 0; have hfz6_1 := zJ BK165.out 1; have hcz7_0 : w4.cell? ⟨gb166, 0, none⟩ = some (.int .i64 0) := zB BK166.out 0; have hcz7_1 : w4.cell? ⟨gb166, 1, none⟩ = some (.int .i64 0) := zB BK166.out 1; have hfz7_0 := zJ BK166.out 0; have hfz7_1 := zJ BK166.out 1))
 refine bodyPost_ret (results_cell_row rfl _ _ gb166 50 #[.int .i64 (wrap64 (a1 * a0_0)), .int .i64 (wrap64 (a1 * a0_1))] (0, 0) _ rfl (by (with_reducible repeat (first | refine zE ?_ _ | refine zI ?_ | refine zD ?_ _)); refine zS (cs := #[.int .i64 (wrap64 (a1 * a0_0)), .int .i64 0]) ?_ 1 _ rfl; (with_reducible repeat (first | refine zE ?_ _ | refine zI ?_ | refine zD ?_ _)); refine zS (cs := #[.int .i64 0, .int .i64 0]) ?_ 0 _ rfl; (with_reducible repeat (first | refine zE ?_ _ | refine zI ?_ | refine zD ?_ _)); exact BK166.out) Try.underlying50 rfl (by kernel_rfl)) rfl ?_
 exact ⟨by first | rfl | (simp [*, errW_none, errW_some] <;> rfl), by repeat (first | (with_reducible first | exact HB.out | apply zG | apply zA | apply zF | refine zH ?_ GE165.out | refine zH ?_ GE166.out) | exact HB.out)⟩
end Go.Proofs.Ytioendlbpendpaa.X
