/- Part of the proof of the law FnExactDropOf: each function of the code computes what its plain function says. No condition of its own. -/
import Derived.Test.YtomgliinndfliaaCFnExactDropOfW3
namespace Go.Proofs.Ytomgliinndfliaa.X
open Go.RowKit Go.Proofs.YtomgliinndfliaaW.PrintWords Go.Proofs.YtomgliinndfliaaW.PrintLast Go.Proofs.YtomgliinndfliaaW.PrintMore
attribute [local go_sem] max2_int min2_int max_two min_two max_three min_three max_four min_four   -- for this text's walks alone
set_option linter.unusedVariables false
set_option linter.unusedSimpArgs false

/-! ### impl_rollLattice: function 107 -/
set_option maxHeartbeats 8000000 in
set_option maxRecDepth 100000 in
theorem impl_rollLattice.calls (k : Nat) (a0_0 : Int) (a0_1 : Int) (a0_2 : Int) (a0_3 : Int) (A0_4 : Option Addr) (c0_4 : Nat) (l0_4 : List Int) (r1 : Int) (r2 : Int) (r3 : Int) (r4 : Int) (w : World) (hr0_4 : Kd.C (Kd.int .i64) w A0_4 l0_4.length l0_4) (hc0_4 : l0_4.length ≤ c0_4) (h : impl_rollLattice.f k a0_0 a0_1 a0_2 a0_3 l0_4 = some (r1, r2, r3, r4)) :
  Calls Try.prog 107 #[.agg #[.int .i64 a0_0, .int .i64 a0_1, .int .i64 a0_2, .int .i64 a0_3, .slice A0_4 l0_4.length c0_4]] w fun e w' => e = .returned (.tuple #[.agg #[.int .i64 r1, .int .i64 r2, .int .i64 r3], .int .i64 r4]) ∧ Below w.heap.size w w' := by
 have hu30 := Try.underlying30
 have hu28 := Try.underlying28
 have HR0_4 := zC.mk hr0_4
 have HC0_4 := zC.mk hc0_4
 clear hr0_4 hc0_4
 have HB := zC.mk (Below.refl w.heap.size w)
 have H : ((impl_IsPattern.f a0_0 a0_1 a0_2 a0_3 l0_4).bind fun t1578 => (if t1578 = true then (if a0_0 = 0 then ((impl_Pattern_fullLattice.f k a0_0 a0_1 a0_2 a0_3 l0_4).bind fun bt1579 => (some (bt1579.1, bt1579.2.1, bt1579.2.2, 0))) else (some (0, 0, 0, 1))) else (some (0, 0, 0, 1)))) = some (r1, r2, r3, r4) := h
 clear h
 replace H := Option.bind_eq_some_iff.mp H
 obtain ⟨t1578, A20, H⟩ := H
 replace H : (if t1578 = true then (if a0_0 = 0 then ((impl_Pattern_fullLattice.f k a0_0 a0_1 a0_2 a0_3 l0_4).bind fun bt1579 => (some (bt1579.1, bt1579.2.1, bt1579.2.2, 0))) else (some (0, 0, 0, 1))) else (some (0, 0, 0, 1))) = some (r1, r2, r3, r4) := H
 have A2 := zC.mk A20
 clear A20
 by_cases c3 : t1578 = true
 ·
  subst c3
  have H1 : (if a0_0 = 0 then ((impl_Pattern_fullLattice.f k a0_0 a0_1 a0_2 a0_3 l0_4).bind fun bt1579 => (some (bt1579.1, bt1579.2.1, bt1579.2.2, 0))) else (some (0, 0, 0, 1))) = some (r1, r2, r3, r4) := by rw [if_pos rfl] at H; exact H
  clear H
  have H := H1
  clear H1
  by_cases c4 : a0_0 = 0
  ·
   rw [if_pos c4] at H
   have c4b0 : (a0_0 == 0) = true := beq_iff_eq.mpr c4
   have c4b1 : (a0_0 != 0) = false := bne_eq_false_iff_eq.mpr c4
   clear c4
   replace H := Option.bind_eq_some_iff.mp H
   obtain ⟨⟨t1579, t1580, t1581⟩, A50, H⟩ := H
   replace H : (some (t1579, t1580, t1581, 0)) = some (r1, r2, r3, r4) := H
   have A5 := zC.mk A50
   clear A50
   simp only [Option.some.injEq, Prod.mk.injEq] at H
   obtain ⟨rfl, rfl, rfl, rfl⟩ := H
   go_enter Try.func107, Try.ntmps107
   go_wp2_with (first | ((with_reducible refine zQ (N := 1) rfl ?_); refine zN ?hg (N := 1) ?hd (cs := #[.int .i64 a0_0, .int .i64 a0_1, .int .i64 a0_2, .int .i64 a0_3, .slice A0_4 l0_4.length c0_4]) (t := 30) ?hr ?_; (case hd => rfl); (case hg => rfl); (case hr => first | (go_simp; done) | (go_simp; rfl)); intro gb1576 hg w6 hbox hb; have n0_ := zC.mk (zL (by repeat (first | (with_reducible first | exact HB.out | apply zI | apply zB | apply zF) | exact HB.out)) hb); have n1_ := zC.mk (hbox); have n2_ := zC.mk ((by rw [hg]; exact (zM (by repeat (first | (with_reducible first | exact HB.out | apply zI | apply zB | apply zF) | exact HB.out))) : w.heap.size ≤ gb1576)); have n3_ := n2_; clear HB; have HB := n0_; have BK1576 := n1_; have GW1576 := n2_; have GE1576 := n3_; clear n0_ n1_ n2_ n3_; clear hb hbox hg) | ((with_reducible refine zQ (N := 2) rfl ?_); refine zN ?hg (N := 2) ?hd (cs := #[.int .i64 0, .int .i64 0, .int .i64 0]) (t := 28) ?hr ?_; (case hd => rfl); (case hg => rfl); (case hr => first | (go_simp; done) | (go_simp; rfl)); intro gb1577 hg w7 hbox hb; have n0_ := zC.mk (zK (g := gb1576) (o := .cells #[.int .i64 a0_0, .int .i64 a0_1, .int .i64 a0_2, .int .i64 a0_3, .slice A0_4 l0_4.length c0_4] 30 (0, 0)) (by (with_reducible repeat (first | refine zD ?_ _ | refine zG ?_ | refine zE ?_ _)); exact BK1576.out) hb); have n1_ := zC.mk (zL (by repeat (first | (with_reducible first | exact HB.out | apply zI | apply zB | apply zF | refine zH ?_ GE1576.out) | exact HB.out)) hb); have n2_ := zC.mk (hbox); have n3_ := zC.mk ((by rw [hg]; exact (zM (by repeat (first | (with_reducible first | exact HB.out | apply zI | apply zB | apply zF | refine zH ?_ GE1576.out) | exact HB.out))) : w.heap.size ≤ gb1577)); have n4_ := n3_; have n5_ := zC.mk ((by rw [hg]; exact Nat.ne_of_lt (zX (by (with_reducible repeat (first | refine zD ?_ _ | refine zG ?_ | refine zE ?_ _)); exact BK1576.out)) : gb1576 ≠ gb1577)); have n6_ := zC.mk n5_.out.symm; clear BK1576; clear HB; have BK1576 := n0_; have HB := n1_; have BK1577 := n2_; have GW1577 := n3_; have GE1577 := n4_; have NB1576_1577 := n5_; have NB1577_1576 := n6_; clear n0_ n1_ n2_ n3_ n4_ n5_ n6_; clear hb hbox hg; have hnb8 := NB1576_1577.out; have hnc8 := NB1577_1576.out; have hcz9_0 : w7.cell? ⟨gb1576, 0, none⟩ = some (.int .i64 a0_0) := (zA BK1576.out 0).trans rfl; have hcz9_1 : w7.cell? ⟨gb1576, 1, none⟩ = some (.int .i64 a0_1) := (zA BK1576.out 1).trans rfl; have hcz9_2 : w7.cell? ⟨gb1576, 2, none⟩ = some (.int .i64 a0_2) := (zA BK1576.out 2).trans rfl; have hcz9_3 : w7.cell? ⟨gb1576, 3, none⟩ = some (.int .i64 a0_3) := (zA BK1576.out 3).trans rfl; have hcz9_4 : w7.cell? ⟨gb1576, 4, none⟩ = some (.slice A0_4 l0_4.length c0_4) := (zA BK1576.out 4).trans rfl; have hfz9_0 := zJ BK1576.out 0; have hfz9_1 := zJ BK1576.out 1; have hfz9_2 := zJ BK1576.out 2; have hfz9_3 := zJ BK1576.out 3; have hfz9_4 := zJ BK1576.out 4) | ((with_reducible refine zR (f := 64) rfl ?_); refine zZ (some 5) rfl rfl Try.func64 (by kernel_rfl) rfl #[.agg #[.int .i64 a0_0, .int .i64 a0_1, .int .i64 a0_2, .int .i64 a0_3, .slice A0_4 l0_4.length c0_4]] rfl (by (try simp only [List.map_toArray, List.map_cons, List.map_nil]); first | done | rfl | (simp only [List.length_drop, List.length_take]; rfl)) ?_; (with_reducible refine (impl_IsPattern.calls a0_0 a0_1 a0_2 a0_3 _ _ l0_4 true _ ?side1 ?side2 A2.out).mono ?_); (case side1 => repeat (first | exact (Kd.C_below HR0_4.out HB.out) | (with_reducible refine Kd.C_alloc ?_ _) | (with_reducible refine Kd.C_drewN ?_ _) | (with_reducible refine Kd.C_drew ?_))); (case side2 => exact HC0_4.out); rintro e w10 ⟨rfl, hb⟩; refine ⟨_, rfl, ?_⟩; have n0_ := zC.mk (zK (g := gb1576) (o := .cells #[.int .i64 a0_0, .int .i64 a0_1, .int .i64 a0_2, .int .i64 a0_3, .slice A0_4 l0_4.length c0_4] 30 (0, 0)) (by (with_reducible repeat (first | refine zD ?_ _ | refine zG ?_ | refine zE ?_ _)); exact BK1576.out) hb); have n1_ := zC.mk (zK (g := gb1577) (o := .cells #[.int .i64 0, .int .i64 0, .int .i64 0] 28 (0, 0)) (by (with_reducible repeat (first | refine zD ?_ _ | refine zG ?_ | refine zE ?_ _)); exact BK1577.out) hb); have n2_ := zC.mk (zL (by repeat (first | (with_reducible first | exact HB.out | apply zI | apply zB | apply zF | refine zH ?_ GE1576.out | refine zH ?_ GE1577.out) | exact HB.out)) hb); clear BK1576; clear BK1577; clear HB; have BK1576 := n0_; have BK1577 := n1_; have HB := n2_; clear n0_ n1_ n2_; (try clear hb); (try clear hb2); (try clear hk); (try clear hi); have hcz11_0 : w10.cell? ⟨gb1576, 0, none⟩ = some (.int .i64 a0_0) := (zA BK1576.out 0).trans rfl; have hcz11_1 : w10.cell? ⟨gb1576, 1, none⟩ = some (.int .i64 a0_1) := (zA BK1576.out 1).trans rfl; have hcz11_2 : w10.cell? ⟨gb1576, 2, none⟩ = some (.int .i64 a0_2) := (zA BK1576.out 2).trans rfl; have hcz11_3 : w10.cell? ⟨gb1576, 3, none⟩ = some (.int .i64 a0_3) := (zA BK1576.out 3).trans rfl; have hcz11_4 : w10.cell? ⟨gb1576, 4, none⟩ = some (.slice A0_4 l0_4.length c0_4) := (zA BK1576.out 4).trans rfl; have hfz11_0 := zJ BK1576.out 0; have hfz11_1 := zJ BK1576.out 1; have hfz11_2 := zJ BK1576.out 2; have hfz11_3 := zJ BK1576.out 3; have hfz11_4 := zJ BK1576.out 4) | ((with_reducible refine zR (f := 149) rfl ?_); refine zZ (some 14) rfl rfl Try.func149 (by kernel_rfl) rfl #[.agg #[.int .i64 a0_0, .int .i64 a0_1, .int .i64 a0_2, .int .i64 a0_3, .slice A0_4 l0_4.length c0_4]] rfl (by (try simp only [List.map_toArray, List.map_cons, List.map_nil]); first | done | rfl | (simp only [List.length_drop, List.length_take]; rfl)) ?_; (with_reducible refine (impl_Pattern_fullLattice.calls k a0_0 a0_1 a0_2 a0_3 _ _ l0_4 t1579 t1580 t1581 _ ?side1 ?side2 A5.out).mono ?_); (case side1 => repeat (first | exact (Kd.C_below HR0_4.out HB.out) | (with_reducible refine Kd.C_alloc ?_ _) | (with_reducible refine Kd.C_drewN ?_ _) | (with_reducible refine Kd.C_drew ?_))); (case side2 => exact HC0_4.out); rintro e w12 ⟨rfl, hb⟩; refine ⟨_, rfl, ?_⟩; have n0_ := zC.mk (zK (g := gb1576) (o := .cells #[.int .i64 a0_0, .int .i64 a0_1, .int .i64 a0_2, .int .i64 a0_3, .slice A0_4 l0_4.length c0_4] 30 (0, 0)) (by (with_reducible repeat (first | refine zD ?_ _ | refine zG ?_ | refine zE ?_ _)); exact BK1576.out) hb); have n1_ := zC.mk (zK (g := gb1577) (o := .cells #[.int .i64 0, .int .i64 0, .int .i64 0] 28 (0, 0)) (by (with_reducible repeat (first | refine zD ?_ _ | refine zG ?_ | refine zE ?_ _)); exact BK1577.out) hb); have n2_ := zC.mk (zL (by repeat (first | (with_reducible first | exact HB.out | apply zI | apply zB | apply zF | refine zH ?_ GE1576.out | refine zH ?_ GE1577.out) | exact HB.out)) hb); clear BK1576; clear BK1577; clear HB; have BK1576 := n0_; have BK1577 := n1_; have HB := n2_; clear n0_ n1_ n2_; (try clear hb); (try clear hb2); (try clear hk); (try clear hi); have hcz13_0 : w12.cell? ⟨gb1577, 0, none⟩ = some (.int .i64 0) := (zA BK1577.out 0).trans rfl; have hcz13_1 : w12.cell? ⟨gb1577, 1, none⟩ = some (.int .i64 0) := (zA BK1577.out 1).trans rfl; have hcz13_2 : w12.cell? ⟨gb1577, 2, none⟩ = some (.int .i64 0) := (zA BK1577.out 2).trans rfl; have hfz13_0 := zJ BK1577.out 0; have hfz13_1 := zJ BK1577.out 1; have hfz13_2 := zJ BK1577.out 2))
   refine bodyPost_ret (results_ct rfl _ _ gb1577 28 #[.int .i64 t1579, .int .i64 t1580, .int .i64 t1581] (0, 0) _ rfl (by (with_reducible repeat (first | refine zD ?_ _ | refine zG ?_ | refine zE ?_ _)); refine zS (cs := #[.int .i64 t1579, .int .i64 t1580, .int .i64 0]) ?_ 2 _ rfl; (with_reducible repeat (first | refine zD ?_ _ | refine zG ?_ | refine zE ?_ _)); refine zS (cs := #[.int .i64 t1579, .int .i64 0, .int .i64 0]) ?_ 1 _ rfl; (with_reducible repeat (first | refine zD ?_ _ | refine zG ?_ | refine zE ?_ _)); refine zS (cs := #[.int .i64 0, .int .i64 0, .int .i64 0]) ?_ 0 _ rfl; (with_reducible repeat (first | refine zD ?_ _ | refine zG ?_ | refine zE ?_ _)); exact BK1577.out) Try.underlying28 rfl (by kernel_rfl)) rfl ?_
   exact ⟨by first | rfl | (simp [errW_none, errW_some] <;> rfl) | (simp [*, errW_none, errW_some] <;> rfl), by repeat (first | (with_reducible first | exact HB.out | apply zI | apply zB | apply zF | refine zH ?_ GE1576.out | refine zH ?_ GE1577.out) | exact HB.out)⟩
  ·
   rw [if_neg c4] at H
   have c4b0 : (a0_0 == 0) = false := beq_eq_false_iff_ne.mpr c4
   have c4b1 : (a0_0 != 0) = true := bne_iff_ne.mpr c4
   simp only [Option.some.injEq, Prod.mk.injEq] at H
   obtain ⟨rfl, rfl, rfl, rfl⟩ := H
   go_enter Try.func107, Try.ntmps107
   go_wp2_with (first | ((with_reducible refine zQ (N := 1) rfl ?_); refine zN ?hg (N := 1) ?hd (cs := #[.int .i64 a0_0, .int .i64 a0_1, .int .i64 a0_2, .int .i64 a0_3, .slice A0_4 l0_4.length c0_4]) (t := 30) ?hr ?_; (case hd => rfl); (case hg => rfl); (case hr => first | (go_simp; done) | (go_simp; rfl)); intro gb1576 hg w14 hbox hb; have n0_ := zC.mk (zL (by repeat (first | (with_reducible first | exact HB.out | apply zI | apply zB | apply zF) | exact HB.out)) hb); have n1_ := zC.mk (hbox); have n2_ := zC.mk ((by rw [hg]; exact (zM (by repeat (first | (with_reducible first | exact HB.out | apply zI | apply zB | apply zF) | exact HB.out))) : w.heap.size ≤ gb1576)); have n3_ := n2_; clear HB; have HB := n0_; have BK1576 := n1_; have GW1576 := n2_; have GE1576 := n3_; clear n0_ n1_ n2_ n3_; clear hb hbox hg) | ((with_reducible refine zQ (N := 2) rfl ?_); refine zN ?hg (N := 2) ?hd (cs := #[.int .i64 0, .int .i64 0, .int .i64 0]) (t := 28) ?hr ?_; (case hd => rfl); (case hg => rfl); (case hr => first | (go_simp; done) | (go_simp; rfl)); intro gb1577 hg w15 hbox hb; have n0_ := zC.mk (zK (g := gb1576) (o := .cells #[.int .i64 a0_0, .int .i64 a0_1, .int .i64 a0_2, .int .i64 a0_3, .slice A0_4 l0_4.length c0_4] 30 (0, 0)) (by (with_reducible repeat (first | refine zD ?_ _ | refine zG ?_ | refine zE ?_ _)); exact BK1576.out) hb); have n1_ := zC.mk (zL (by repeat (first | (with_reducible first | exact HB.out | apply zI | apply zB | apply zF | refine zH ?_ GE1576.out) | exact HB.out)) hb); have n2_ := zC.mk (hbox); have n3_ := zC.mk ((by rw [hg]; exact (zM (by repeat (first | (with_reducible first | exact HB.out | apply zI | apply zB | apply zF | refine zH ?_ GE1576.out) | exact HB.out))) : w.heap.size ≤ gb1577)); have n4_ := n3_; have n5_ := zC.mk ((by rw [hg]; exact Nat.ne_of_lt (zX (by (with_reducible repeat (first | refine zD ?_ _ | refine zG ?_ | refine zE ?_ _)); exact BK1576.out)) : gb1576 ≠ gb1577)); have n6_ := zC.mk n5_.out.symm; clear BK1576; clear HB; have BK1576 := n0_; have HB := n1_; have BK1577 := n2_; have GW1577 := n3_; have GE1577 := n4_; have NB1576_1577 := n5_; have NB1577_1576 := n6_; clear n0_ n1_ n2_ n3_ n4_ n5_ n6_; clear hb hbox hg; have hnb16 := NB1576_1577.out; have hnc16 := NB1577_1576.out; have hcz17_0 : w15.cell? ⟨gb1576, 0, none⟩ = some (.int .i64 a0_0) := (zA BK1576.out 0).trans rfl; have hcz17_1 : w15.cell? ⟨gb1576, 1, none⟩ = some (.int .i64 a0_1) := (zA BK1576.out 1).trans rfl; have hcz17_2 : w15.cell? ⟨gb1576, 2, none⟩ = some (.int .i64 a0_2) := (zA BK1576.out 2).trans rfl; have hcz17_3 : w15.cell? ⟨gb1576, 3, none⟩ = some (.int .i64 a0_3) := (zA BK1576.out 3).trans rfl; have hcz17_4 : w15.cell? ⟨gb1576, 4, none⟩ = some (.slice A0_4 l0_4.length c0_4) := (zA BK1576.out 4).trans rfl; have hfz17_0 := zJ BK1576.out 0; have hfz17_1 := zJ BK1576.out 1; have hfz17_2 := zJ BK1576.out 2; have hfz17_3 := zJ BK1576.out 3; have hfz17_4 := zJ BK1576.out 4) | ((with_reducible refine zR (f := 64) rfl ?_); refine zZ (some 5) rfl rfl Try.func64 (by kernel_rfl) rfl #[.agg #[.int .i64 a0_0, .int .i64 a0_1, .int .i64 a0_2, .int .i64 a0_3, .slice A0_4 l0_4.length c0_4]] rfl (by (try simp only [List.map_toArray, List.map_cons, List.map_nil]); first | done | rfl | (simp only [List.length_drop, List.length_take]; rfl)) ?_; (with_reducible refine (impl_IsPattern.calls a0_0 a0_1 a0_2 a0_3 _ _ l0_4 true _ ?side1 ?side2 A2.out).mono ?_); (case side1 => repeat (first | exact (Kd.C_below HR0_4.out HB.out) | (with_reducible refine Kd.C_alloc ?_ _) | (with_reducible refine Kd.C_drewN ?_ _) | (with_reducible refine Kd.C_drew ?_))); (case side2 => exact HC0_4.out); rintro e w18 ⟨rfl, hb⟩; refine ⟨_, rfl, ?_⟩; have n0_ := zC.mk (zK (g := gb1576) (o := .cells #[.int .i64 a0_0, .int .i64 a0_1, .int .i64 a0_2, .int .i64 a0_3, .slice A0_4 l0_4.length c0_4] 30 (0, 0)) (by (with_reducible repeat (first | refine zD ?_ _ | refine zG ?_ | refine zE ?_ _)); exact BK1576.out) hb); have n1_ := zC.mk (zK (g := gb1577) (o := .cells #[.int .i64 0, .int .i64 0, .int .i64 0] 28 (0, 0)) (by (with_reducible repeat (first | refine zD ?_ _ | refine zG ?_ | refine zE ?_ _)); exact BK1577.out) hb); have n2_ := zC.mk (zL (by repeat (first | (with_reducible first | exact HB.out | apply zI | apply zB | apply zF | refine zH ?_ GE1576.out | refine zH ?_ GE1577.out) | exact HB.out)) hb); clear BK1576; clear BK1577; clear HB; have BK1576 := n0_; have BK1577 := n1_; have HB := n2_; clear n0_ n1_ n2_; (try clear hb); (try clear hb2); (try clear hk); (try clear hi); have hcz19_0 : w18.cell? ⟨gb1576, 0, none⟩ = some (.int .i64 a0_0) := (zA BK1576.out 0).trans rfl; have hcz19_1 : w18.cell? ⟨gb1576, 1, none⟩ = some (.int .i64 a0_1) := (zA BK1576.out 1).trans rfl; have hcz19_2 : w18.cell? ⟨gb1576, 2, none⟩ = some (.int .i64 a0_2) := (zA BK1576.out 2).trans rfl; have hcz19_3 : w18.cell? ⟨gb1576, 3, none⟩ = some (.int .i64 a0_3) := (zA BK1576.out 3).trans rfl; have hcz19_4 : w18.cell? ⟨gb1576, 4, none⟩ = some (.slice A0_4 l0_4.length c0_4) := (zA BK1576.out 4).trans rfl; have hfz19_0 := zJ BK1576.out 0; have hfz19_1 := zJ BK1576.out 1; have hfz19_2 := zJ BK1576.out 2; have hfz19_3 := zJ BK1576.out 3; have hfz19_4 := zJ BK1576.out 4; have hcz20_0 : w18.cell? ⟨gb1577, 0, none⟩ = some (.int .i64 0) := (zA BK1577.out 0).trans rfl; have hcz20_1 : w18.cell? ⟨gb1577, 1, none⟩ = some (.int .i64 0) := (zA BK1577.out 1).trans rfl; have hcz20_2 : w18.cell? ⟨gb1577, 2, none⟩ = some (.int .i64 0) := (zA BK1577.out 2).trans rfl; have hfz20_0 := zJ BK1577.out 0; have hfz20_1 := zJ BK1577.out 1; have hfz20_2 := zJ BK1577.out 2))
   refine bodyPost_ret (results_ct rfl _ _ gb1577 28 #[.int .i64 0, .int .i64 0, .int .i64 0] (0, 0) _ rfl (by (with_reducible repeat (first | refine zD ?_ _ | refine zG ?_ | refine zE ?_ _)); refine zS (cs := #[.int .i64 0, .int .i64 0, .int .i64 0]) ?_ 2 _ rfl; (with_reducible repeat (first | refine zD ?_ _ | refine zG ?_ | refine zE ?_ _)); refine zS (cs := #[.int .i64 0, .int .i64 0, .int .i64 0]) ?_ 1 _ rfl; (with_reducible repeat (first | refine zD ?_ _ | refine zG ?_ | refine zE ?_ _)); refine zS (cs := #[.int .i64 0, .int .i64 0, .int .i64 0]) ?_ 0 _ rfl; (with_reducible repeat (first | refine zD ?_ _ | refine zG ?_ | refine zE ?_ _)); exact BK1577.out) Try.underlying28 rfl (by kernel_rfl)) rfl ?_
   exact ⟨by first | rfl | (simp [errW_none, errW_some] <;> rfl) | (simp [*, errW_none, errW_some] <;> rfl), by repeat (first | (with_reducible first | exact HB.out | apply zI | apply zB | apply zF | refine zH ?_ GE1576.out | refine zH ?_ GE1577.out) | exact HB.out)⟩
 ·
  replace c3 := Bool.eq_false_iff.mpr c3
  subst c3
  have H1 : (some (0, 0, 0, 1)) = some (r1, r2, r3, r4) := by rw [if_neg (show ¬ (false = true) by decide)] at H; exact H
  clear H
  have H := H1
  clear H1
  simp only [Option.some.injEq, Prod.mk.injEq] at H
  obtain ⟨rfl, rfl, rfl, rfl⟩ := H
  go_enter Try.func107, Try.ntmps107
  go_wp2_with (first | ((with_reducible refine zQ (N := 1) rfl ?_); refine zN ?hg (N := 1) ?hd (cs := #[.int .i64 a0_0, .int .i64 a0_1, .int .i64 a0_2, .int .i64 a0_3, .slice A0_4 l0_4.length c0_4]) (t := 30) ?hr ?_; (case hd => rfl); (case hg => rfl); (case hr => first | (go_simp; done) | (go_simp; rfl)); intro gb1576 hg w21 hbox hb; have n0_ := zC.mk (zL (by repeat (first | (with_reducible first | exact HB.out | apply zI | apply zB | apply zF) | exact HB.out)) hb); have n1_ := zC.mk (hbox); have n2_ := zC.mk ((by rw [hg]; exact (zM (by repeat (first | (with_reducible first | exact HB.out | apply zI | apply zB | apply zF) | exact HB.out))) : w.heap.size ≤ gb1576)); have n3_ := n2_; clear HB; have HB := n0_; have BK1576 := n1_; have GW1576 := n2_; have GE1576 := n3_; clear n0_ n1_ n2_ n3_; clear hb hbox hg) | ((with_reducible refine zQ (N := 2) rfl ?_); refine zN ?hg (N := 2) ?hd (cs := #[.int .i64 0, .int .i64 0, .int .i64 0]) (t := 28) ?hr ?_; (case hd => rfl); (case hg => rfl); (case hr => first | (go_simp; done) | (go_simp; rfl)); intro gb1577 hg w22 hbox hb; have n0_ := zC.mk (zK (g := gb1576) (o := .cells #[.int .i64 a0_0, .int .i64 a0_1, .int .i64 a0_2, .int .i64 a0_3, .slice A0_4 l0_4.length c0_4] 30 (0, 0)) (by (with_reducible repeat (first | refine zD ?_ _ | refine zG ?_ | refine zE ?_ _)); exact BK1576.out) hb); have n1_ := zC.mk (zL (by repeat (first | (with_reducible first | exact HB.out | apply zI | apply zB | apply zF | refine zH ?_ GE1576.out) | exact HB.out)) hb); have n2_ := zC.mk (hbox); have n3_ := zC.mk ((by rw [hg]; exact (zM (by repeat (first | (with_reducible first | exact HB.out | apply zI | apply zB | apply zF | refine zH ?_ GE1576.out) | exact HB.out))) : w.heap.size ≤ gb1577)); have n4_ := n3_; have n5_ := zC.mk ((by rw [hg]; exact Nat.ne_of_lt (zX (by (with_reducible repeat (first | refine zD ?_ _ | refine zG ?_ | refine zE ?_ _)); exact BK1576.out)) : gb1576 ≠ gb1577)); have n6_ := zC.mk n5_.out.symm; clear BK1576; clear HB; have BK1576 := n0_; have HB := n1_; have BK1577 := n2_; have GW1577 := n3_; have GE1577 := n4_; have NB1576_1577 := n5_; have NB1577_1576 := n6_; clear n0_ n1_ n2_ n3_ n4_ n5_ n6_; clear hb hbox hg; have hnb23 := NB1576_1577.out; have hnc23 := NB1577_1576.out; have hcz24_0 : w22.cell? ⟨gb1576, 0, none⟩ = some (.int .i64 a0_0) := (zA BK1576.out 0).trans rfl; have hcz24_1 : w22.cell? ⟨gb1576, 1, none⟩ = some (.int .i64 a0_1) := (zA BK1576.out 1).trans rfl; have hcz24_2 : w22.cell? ⟨gb1576, 2, none⟩ = some (.int .i64 a0_2) := (zA BK1576.out 2).trans rfl; have hcz24_3 : w22.cell? ⟨gb1576, 3, none⟩ = some (.int .i64 a0_3) := (zA BK1576.out 3).trans rfl; have hcz24_4 : w22.cell? ⟨gb1576, 4, none⟩ = some (.slice A0_4 l0_4.length c0_4) := (zA BK1576.out 4).trans rfl; have hfz24_0 := zJ BK1576.out 0; have hfz24_1 := zJ BK1576.out 1; have hfz24_2 := zJ BK1576.out 2; have hfz24_3 := zJ BK1576.out 3; have hfz24_4 := zJ BK1576.out 4) | ((with_reducible refine zR (f := 64) rfl ?_); refine zZ (some 5) rfl rfl Try.func64 (by kernel_rfl) rfl #[.agg #[.int .i64 a0_0, .int .i64 a0_1, .int .i64 a0_2, .int .i64 a0_3, .slice A0_4 l0_4.length c0_4]] rfl (by (try simp only [List.map_toArray, List.map_cons, List.map_nil]); first | done | rfl | (simp only [List.length_drop, List.length_take]; rfl)) ?_; (with_reducible refine (impl_IsPattern.calls a0_0 a0_1 a0_2 a0_3 _ _ l0_4 false _ ?side1 ?side2 A2.out).mono ?_); (case side1 => repeat (first | exact (Kd.C_below HR0_4.out HB.out) | (with_reducible refine Kd.C_alloc ?_ _) | (with_reducible refine Kd.C_drewN ?_ _) | (with_reducible refine Kd.C_drew ?_))); (case side2 => exact HC0_4.out); rintro e w25 ⟨rfl, hb⟩; refine ⟨_, rfl, ?_⟩; have n0_ := zC.mk (zK (g := gb1576) (o := .cells #[.int .i64 a0_0, .int .i64 a0_1, .int .i64 a0_2, .int .i64 a0_3, .slice A0_4 l0_4.length c0_4] 30 (0, 0)) (by (with_reducible repeat (first | refine zD ?_ _ | refine zG ?_ | refine zE ?_ _)); exact BK1576.out) hb); have n1_ := zC.mk (zK (g := gb1577) (o := .cells #[.int .i64 0, .int .i64 0, .int .i64 0] 28 (0, 0)) (by (with_reducible repeat (first | refine zD ?_ _ | refine zG ?_ | refine zE ?_ _)); exact BK1577.out) hb); have n2_ := zC.mk (zL (by repeat (first | (with_reducible first | exact HB.out | apply zI | apply zB | apply zF | refine zH ?_ GE1576.out | refine zH ?_ GE1577.out) | exact HB.out)) hb); clear BK1576; clear BK1577; clear HB; have BK1576 := n0_; have BK1577 := n1_; have HB := n2_; clear n0_ n1_ n2_; (try clear hb); (try clear hb2); (try clear hk); (try clear hi); have hcz26_0 : w25.cell? ⟨gb1577, 0, none⟩ = some (.int .i64 0) := (zA BK1577.out 0).trans rfl; have hcz26_1 : w25.cell? ⟨gb1577, 1, none⟩ = some (.int .i64 0) := (zA BK1577.out 1).trans rfl; have hcz26_2 : w25.cell? ⟨gb1577, 2, none⟩ = some (.int .i64 0) := (zA BK1577.out 2).trans rfl; have hfz26_0 := zJ BK1577.out 0; have hfz26_1 := zJ BK1577.out 1; have hfz26_2 := zJ BK1577.out 2))
  refine bodyPost_ret (results_ct rfl _ _ gb1577 28 #[.int .i64 0, .int .i64 0, .int .i64 0] (0, 0) _ rfl (by (with_reducible repeat (first | refine zD ?_ _ | refine zG ?_ | refine zE ?_ _)); refine zS (cs := #[.int .i64 0, .int .i64 0, .int .i64 0]) ?_ 2 _ rfl; (with_reducible repeat (first | refine zD ?_ _ | refine zG ?_ | refine zE ?_ _)); refine zS (cs := #[.int .i64 0, .int .i64 0, .int .i64 0]) ?_ 1 _ rfl; (with_reducible repeat (first | refine zD ?_ _ | refine zG ?_ | refine zE ?_ _)); refine zS (cs := #[.int .i64 0, .int .i64 0, .int .i64 0]) ?_ 0 _ rfl; (with_reducible repeat (first | refine zD ?_ _ | refine zG ?_ | refine zE ?_ _)); exact BK1577.out) Try.underlying28 rfl (by kernel_rfl)) rfl ?_
  exact ⟨by first | rfl | (simp [errW_none, errW_some] <;> rfl) | (simp [*, errW_none, errW_some] <;> rfl), by repeat (first | (with_reducible first | exact HB.out | apply zI | apply zB | apply zF | refine zH ?_ GE1576.out | refine zH ?_ GE1577.out) | exact HB.out)⟩


attribute [local go_sem high] eqA38
/-! ### impl_Lattice_has: function 155 -/
set_option maxHeartbeats 8000000 in
set_option maxRecDepth 100000 in
theorem impl_Lattice_has.calls (a0_0 : Int) (a0_1 : Int) (a0_2 : Int) (a1_0 : Int) (a1_1 : Int) (r : Bool) (w : World) (h : impl_Lattice_has.f a0_0 a0_1 a0_2 a1_0 a1_1 = some r) :
  Calls Try.prog 155 #[.agg #[.int .i64 a0_0, .int .i64 a0_1, .int .i64 a0_2], .agg #[.int .i64 a1_0, .int .i64 a1_1]] w fun e w' => e = .returned (.bool r) ∧ Below w.heap.size w w' := by
 have hu28 := Try.underlying28
 have hu38 := Try.underlying38
 have HB := zC.mk (Below.refl w.heap.size w)
 have H : ((impl_Lattice_reduce.f a0_0 a0_1 a0_2 a1_0 a1_1).bind fun bt1584 => (some (bt1584.1 == 0 && (bt1584.2 == 0)))) = some r := h
 clear h
 replace H := Option.bind_eq_some_iff.mp H
 obtain ⟨⟨t1584, t1585⟩, A30, H⟩ := H
 replace H : (some (t1584 == 0 && (t1585 == 0))) = some r := H
 have A3 := zC.mk A30
 clear A30
 obtain rfl := Option.some.inj H
 go_enter Try.func155, Try.ntmps155
 go_wp2_with (first | ((with_reducible refine zQ (N := 2) rfl ?_); refine zN ?hg (N := 2) ?hd (cs := #[.int .i64 a0_0, .int .i64 a0_1, .int .i64 a0_2]) (t := 28) ?hr ?_; (case hd => rfl); (case hg => rfl); (case hr => first | (go_simp; done) | (go_simp; rfl)); intro gb1582 hg w4 hbox hb; have n0_ := zC.mk (zL (by repeat (first | (with_reducible first | exact HB.out | apply zI | apply zB | apply zF) | exact HB.out)) hb); have n1_ := zC.mk (hbox); have n2_ := zC.mk ((by rw [hg]; exact (zM (by repeat (first | (with_reducible first | exact HB.out | apply zI | apply zB | apply zF) | exact HB.out))) : w.heap.size ≤ gb1582)); have n3_ := n2_; clear HB; have HB := n0_; have BK1582 := n1_; have GW1582 := n2_; have GE1582 := n3_; clear n0_ n1_ n2_ n3_; clear hb hbox hg) | ((with_reducible refine zQ (N := 3) rfl ?_); refine zN ?hg (N := 3) ?hd (cs := #[.int .i64 a1_0, .int .i64 a1_1]) (t := 38) ?hr ?_; (case hd => rfl); (case hg => rfl); (case hr => first | (go_simp; done) | (go_simp; rfl)); intro gb1583 hg w5 hbox hb; have n0_ := zC.mk (zK (g := gb1582) (o := .cells #[.int .i64 a0_0, .int .i64 a0_1, .int .i64 a0_2] 28 (0, 0)) (by (with_reducible repeat (first | refine zD ?_ _ | refine zG ?_ | refine zE ?_ _)); exact BK1582.out) hb); have n1_ := zC.mk (zL (by repeat (first | (with_reducible first | exact HB.out | apply zI | apply zB | apply zF | refine zH ?_ GE1582.out) | exact HB.out)) hb); have n2_ := zC.mk (hbox); have n3_ := zC.mk ((by rw [hg]; exact (zM (by repeat (first | (with_reducible first | exact HB.out | apply zI | apply zB | apply zF | refine zH ?_ GE1582.out) | exact HB.out))) : w.heap.size ≤ gb1583)); have n4_ := n3_; have n5_ := zC.mk ((by rw [hg]; exact Nat.ne_of_lt (zX (by (with_reducible repeat (first | refine zD ?_ _ | refine zG ?_ | refine zE ?_ _)); exact BK1582.out)) : gb1582 ≠ gb1583)); have n6_ := zC.mk n5_.out.symm; clear BK1582; clear HB; have BK1582 := n0_; have HB := n1_; have BK1583 := n2_; have GW1583 := n3_; have GE1583 := n4_; have NB1582_1583 := n5_; have NB1583_1582 := n6_; clear n0_ n1_ n2_ n3_ n4_ n5_ n6_; clear hb hbox hg; have hnb6 := NB1582_1583.out; have hnc6 := NB1583_1582.out; have hcz7_0 : w5.cell? ⟨gb1582, 0, none⟩ = some (.int .i64 a0_0) := (zA BK1582.out 0).trans rfl; have hcz7_1 : w5.cell? ⟨gb1582, 1, none⟩ = some (.int .i64 a0_1) := (zA BK1582.out 1).trans rfl; have hcz7_2 : w5.cell? ⟨gb1582, 2, none⟩ = some (.int .i64 a0_2) := (zA BK1582.out 2).trans rfl; have hfz7_0 := zJ BK1582.out 0; have hfz7_1 := zJ BK1582.out 1; have hfz7_2 := zJ BK1582.out 2; have hcz8_0 : w5.cell? ⟨gb1583, 0, none⟩ = some (.int .i64 a1_0) := (zA BK1583.out 0).trans rfl; have hcz8_1 : w5.cell? ⟨gb1583, 1, none⟩ = some (.int .i64 a1_1) := (zA BK1583.out 1).trans rfl; have hfz8_0 := zJ BK1583.out 0; have hfz8_1 := zJ BK1583.out 1) | ((with_reducible refine zR (f := 124) rfl ?_); refine zZ (some 7) rfl rfl Try.func124 (by kernel_rfl) rfl #[.agg #[.int .i64 a0_0, .int .i64 a0_1, .int .i64 a0_2], .agg #[.int .i64 a1_0, .int .i64 a1_1]] rfl (by (try simp only [List.map_toArray, List.map_cons, List.map_nil]); first | done | rfl | (simp only [List.length_drop, List.length_take]; rfl)) ?_; (with_reducible refine (impl_Lattice_reduce.calls a0_0 a0_1 a0_2 a1_0 a1_1 t1584 t1585 _ A3.out).mono ?_); rintro e w9 ⟨rfl, hb⟩; refine ⟨_, rfl, ?_⟩; have n0_ := zC.mk (zK (g := gb1582) (o := .cells #[.int .i64 a0_0, .int .i64 a0_1, .int .i64 a0_2] 28 (0, 0)) (by (with_reducible repeat (first | refine zD ?_ _ | refine zG ?_ | refine zE ?_ _)); exact BK1582.out) hb); have n1_ := zC.mk (zK (g := gb1583) (o := .cells #[.int .i64 a1_0, .int .i64 a1_1] 38 (0, 0)) (by (with_reducible repeat (first | refine zD ?_ _ | refine zG ?_ | refine zE ?_ _)); exact BK1583.out) hb); have n2_ := zC.mk (zL (by repeat (first | (with_reducible first | exact HB.out | apply zI | apply zB | apply zF | refine zH ?_ GE1582.out | refine zH ?_ GE1583.out) | exact HB.out)) hb); clear BK1582; clear BK1583; clear HB; have BK1582 := n0_; have BK1583 := n1_; have HB := n2_; clear n0_ n1_ n2_; (try clear hb); (try clear hb2); (try clear hk); (try clear hi)))
 go_ret
 exact ⟨by first | rfl | (simp [errW_none, errW_some] <;> rfl) | (simp [*, errW_none, errW_some] <;> rfl), by repeat (first | (with_reducible first | exact HB.out | apply zI | apply zB | apply zF | refine zH ?_ GE1582.out | refine zH ?_ GE1583.out) | exact HB.out)⟩


/-! ### impl_Lattice_multipleIn: function 154 -/
set_option maxHeartbeats 8000000 in
set_option maxRecDepth 100000 in
theorem impl_Lattice_multipleIn.calls (k : Nat) (a0_0 : Int) (a0_1 : Int) (a0_2 : Int) (a1_0 : Int) (a1_1 : Int) (r1 : Int) (r2 : Int) (w : World) (h : impl_Lattice_multipleIn.f k a0_0 a0_1 a0_2 a1_0 a1_1 = some (r1, r2)) :
  Calls Try.prog 154 #[.agg #[.int .i64 a0_0, .int .i64 a0_1, .int .i64 a0_2], .agg #[.int .i64 a1_0, .int .i64 a1_1]] w fun e w' => e = .returned (.agg #[.int .i64 r1, .int .i64 r2]) ∧ Below w.heap.size w w' := by
 have hu28 := Try.underlying28
 have hu38 := Try.underlying38
 have HB := zC.mk (Below.refl w.heap.size w)
 have H : (impl_Lattice_multipleIn.l0 k a0_0 a0_1 a0_2 a1_0 a1_1 a1_0 a1_1) = some (r1, r2) := h
 clear h
 have H' := zC.mk H
 clear H
 go_enter Try.func154, Try.ntmps154
 go_wp2_with (first | ((with_reducible refine zQ (N := 2) rfl ?_); refine zN ?hg (N := 2) ?hd (cs := #[.int .i64 a0_0, .int .i64 a0_1, .int .i64 a0_2]) (t := 28) ?hr ?_; (case hd => rfl); (case hg => rfl); (case hr => first | (go_simp; done) | (go_simp; rfl)); intro gb1586 hg w3 hbox hb; have n0_ := zC.mk (zL (by repeat (first | (with_reducible first | exact HB.out | apply zI | apply zB | apply zF) | exact HB.out)) hb); have n1_ := zC.mk (hbox); have n2_ := zC.mk ((by rw [hg]; exact (zM (by repeat (first | (with_reducible first | exact HB.out | apply zI | apply zB | apply zF) | exact HB.out))) : w.heap.size ≤ gb1586)); have n3_ := n2_; clear HB; have HB := n0_; have BK1586 := n1_; have GW1586 := n2_; have GE1586 := n3_; clear n0_ n1_ n2_ n3_; clear hb hbox hg) | ((with_reducible refine zQ (N := 3) rfl ?_); refine zN ?hg (N := 3) ?hd (cs := #[.int .i64 a1_0, .int .i64 a1_1]) (t := 38) ?hr ?_; (case hd => rfl); (case hg => rfl); (case hr => first | (go_simp; done) | (go_simp; rfl)); intro gb1587 hg w4 hbox hb; have n0_ := zC.mk (zK (g := gb1586) (o := .cells #[.int .i64 a0_0, .int .i64 a0_1, .int .i64 a0_2] 28 (0, 0)) (by (with_reducible repeat (first | refine zD ?_ _ | refine zG ?_ | refine zE ?_ _)); exact BK1586.out) hb); have n1_ := zC.mk (zL (by repeat (first | (with_reducible first | exact HB.out | apply zI | apply zB | apply zF | refine zH ?_ GE1586.out) | exact HB.out)) hb); have n2_ := zC.mk (hbox); have n3_ := zC.mk ((by rw [hg]; exact (zM (by repeat (first | (with_reducible first | exact HB.out | apply zI | apply zB | apply zF | refine zH ?_ GE1586.out) | exact HB.out))) : w.heap.size ≤ gb1587)); have n4_ := n3_; have n5_ := zC.mk ((by rw [hg]; exact Nat.ne_of_lt (zX (by (with_reducible repeat (first | refine zD ?_ _ | refine zG ?_ | refine zE ?_ _)); exact BK1586.out)) : gb1586 ≠ gb1587)); have n6_ := zC.mk n5_.out.symm; clear BK1586; clear HB; have BK1586 := n0_; have HB := n1_; have BK1587 := n2_; have GW1587 := n3_; have GE1587 := n4_; have NB1586_1587 := n5_; have NB1587_1586 := n6_; clear n0_ n1_ n2_ n3_ n4_ n5_ n6_; clear hb hbox hg) | ((with_reducible refine zQ (N := 4) rfl ?_); refine zN ?hg (N := 4) ?hd (cs := #[.int .i64 0, .int .i64 0]) (t := 38) ?hr ?_; (case hd => rfl); (case hg => rfl); (case hr => first | (go_simp; done) | (go_simp; rfl)); intro gb1588 hg w5 hbox hb; have n0_ := zC.mk (zK (g := gb1586) (o := .cells #[.int .i64 a0_0, .int .i64 a0_1, .int .i64 a0_2] 28 (0, 0)) (by (with_reducible repeat (first | refine zD ?_ _ | refine zG ?_ | refine zE ?_ _)); exact BK1586.out) hb); have n1_ := zC.mk (zK (g := gb1587) (o := .cells #[.int .i64 a1_0, .int .i64 a1_1] 38 (0, 0)) (by (with_reducible repeat (first | refine zD ?_ _ | refine zG ?_ | refine zE ?_ _)); exact BK1587.out) hb); have n2_ := zC.mk (zL (by repeat (first | (with_reducible first | exact HB.out | apply zI | apply zB | apply zF | refine zH ?_ GE1586.out | refine zH ?_ GE1587.out) | exact HB.out)) hb); have n3_ := zC.mk (hbox); have n4_ := zC.mk ((by rw [hg]; exact (zM (by repeat (first | (with_reducible first | exact HB.out | apply zI | apply zB | apply zF | refine zH ?_ GE1586.out | refine zH ?_ GE1587.out) | exact HB.out))) : w.heap.size ≤ gb1588)); have n5_ := n4_; have n6_ := zC.mk ((by rw [hg]; exact Nat.ne_of_lt (zX (by (with_reducible repeat (first | refine zD ?_ _ | refine zG ?_ | refine zE ?_ _)); exact BK1586.out)) : gb1586 ≠ gb1588)); have n7_ := zC.mk n6_.out.symm; have n8_ := zC.mk ((by rw [hg]; exact Nat.ne_of_lt (zX (by (with_reducible repeat (first | refine zD ?_ _ | refine zG ?_ | refine zE ?_ _)); exact BK1587.out)) : gb1587 ≠ gb1588)); have n9_ := zC.mk n8_.out.symm; clear BK1586; clear BK1587; clear HB; have BK1586 := n0_; have BK1587 := n1_; have HB := n2_; have BK1588 := n3_; have GW1588 := n4_; have GE1588 := n5_; have NB1586_1588 := n6_; have NB1588_1586 := n7_; have NB1587_1588 := n8_; have NB1588_1587 := n9_; clear n0_ n1_ n2_ n3_ n4_ n5_ n6_ n7_ n8_ n9_; clear hb hbox hg; have hnb6 := NB1587_1586.out; have hnc6 := NB1586_1587.out; have hnb7 := NB1587_1588.out; have hnc7 := NB1588_1587.out; have hcz8_0 : w5.cell? ⟨gb1587, 0, none⟩ = some (.int .i64 a1_0) := (zA BK1587.out 0).trans rfl; have hcz8_1 : w5.cell? ⟨gb1587, 1, none⟩ = some (.int .i64 a1_1) := (zA BK1587.out 1).trans rfl; have hfz8_0 := zJ BK1587.out 0; have hfz8_1 := zJ BK1587.out 1) | ((with_reducible refine zQ (N := 5) rfl ?_); refine zN ?hg (N := 5) ?hd (cs := #[.int .i64 0, .int .i64 0]) (t := 38) ?hr ?_; (case hd => rfl); (case hg => rfl); (case hr => first | (go_simp; done) | (go_simp; rfl)); intro gb1589 hg w9 hbox hb; have n0_ := zC.mk (zK (g := gb1586) (o := .cells #[.int .i64 a0_0, .int .i64 a0_1, .int .i64 a0_2] 28 (0, 0)) (by (with_reducible repeat (first | refine zD ?_ _ | refine zG ?_ | refine zE ?_ _)); exact BK1586.out) hb); have n1_ := zC.mk (zK (g := gb1587) (o := .cells #[.int .i64 a1_0, .int .i64 a1_1] 38 (0, 0)) (by (with_reducible repeat (first | refine zD ?_ _ | refine zG ?_ | refine zE ?_ _)); exact BK1587.out) hb); have n2_ := zC.mk (zK (g := gb1588) (o := .cells #[.int .i64 0, .int .i64 0] 38 (0, 0)) (by (with_reducible repeat (first | refine zD ?_ _ | refine zG ?_ | refine zE ?_ _)); exact BK1588.out) hb); have n3_ := zC.mk (zL (by repeat (first | (with_reducible first | exact HB.out | apply zI | apply zB | apply zF | refine zH ?_ GE1586.out | refine zH ?_ GE1587.out | refine zH ?_ GE1588.out) | exact HB.out)) hb); have n4_ := zC.mk (hbox); have n5_ := zC.mk ((by rw [hg]; exact (zM (by repeat (first | (with_reducible first | exact HB.out | apply zI | apply zB | apply zF | refine zH ?_ GE1586.out | refine zH ?_ GE1587.out | refine zH ?_ GE1588.out) | exact HB.out))) : w.heap.size ≤ gb1589)); have n6_ := n5_; have n7_ := zC.mk ((by rw [hg]; exact Nat.ne_of_lt (zX (by (with_reducible repeat (first | refine zD ?_ _ | refine zG ?_ | refine zE ?_ _)); exact BK1586.out)) : gb1586 ≠ gb1589)); have n8_ := zC.mk n7_.out.symm; have n9_ := zC.mk ((by rw [hg]; exact Nat.ne_of_lt (zX (by (with_reducible repeat (first | refine zD ?_ _ | refine zG ?_ | refine zE ?_ _)); exact BK1587.out)) : gb1587 ≠ gb1589)); have n10_ := zC.mk n9_.out.symm; have n11_ := zC.mk ((by rw [hg]; exact Nat.ne_of_lt (zX (by (with_reducible repeat (first | refine zD ?_ _ | refine zG ?_ | refine zE ?_ _)); exact BK1588.out)) : gb1588 ≠ gb1589)); have n12_ := zC.mk n11_.out.symm; clear BK1586; clear BK1587; clear BK1588; clear HB; have BK1586 := n0_; have BK1587 := n1_; have BK1588 := n2_; have HB := n3_; have BK1589 := n4_; have GW1589 := n5_; have GE1589 := n6_; have NB1586_1589 := n7_; have NB1589_1586 := n8_; have NB1587_1589 := n9_; have NB1589_1587 := n10_; have NB1588_1589 := n11_; have NB1589_1588 := n12_; clear n0_ n1_ n2_ n3_ n4_ n5_ n6_ n7_ n8_ n9_ n10_ n11_ n12_; clear hb hbox hg; have hnb10 := NB1589_1586.out; have hnc10 := NB1586_1589.out; have hnb11 := NB1589_1587.out; have hnc11 := NB1587_1589.out; have hnb12 := NB1589_1588.out; have hnc12 := NB1588_1589.out; have hcz13_0 : w9.cell? ⟨gb1589, 0, none⟩ = some (.int .i64 0) := (zA BK1589.out 0).trans rfl; have hcz13_1 : w9.cell? ⟨gb1589, 1, none⟩ = some (.int .i64 0) := (zA BK1589.out 1).trans rfl; have hfz13_0 := zJ BK1589.out 0; have hfz13_1 := zJ BK1589.out 1))
 go_loopg [] k (fun kq w' => ∃ (x1590000_1 : Int) (x1590001_1 : Int), zC (impl_Lattice_multipleIn.l0 kq a0_0 a0_1 a0_2 a1_0 a1_1 x1590000_1 x1590001_1 = some (r1, r2)) ∧ zC (kq ≤ k) ∧ zC (w'.heap[gb1586]? = some (.cells #[.int .i64 a0_0, .int .i64 a0_1, .int .i64 a0_2] 28 (0, 0))) ∧ zC (w'.heap[gb1587]? = some (.cells #[.int .i64 a1_0, .int .i64 a1_1] 38 (0, 0))) ∧ zC (w'.heap[gb1588]? = some (.cells #[.int .i64 0, .int .i64 0] 38 (0, 0))) ∧ zC (w'.heap[gb1589]? = some (.cells #[.int .i64 x1590000_1, .int .i64 x1590001_1] 38 (0, 0))) ∧ zC (Below w.heap.size w w'))
 case atStart => exact ⟨(a1_0), (a1_1), H', ⟨Nat.le_refl _⟩, ⟨by (with_reducible repeat (first | refine zD ?_ _ | refine zG ?_ | refine zE ?_ _)); refine zV ?_ NB1586_1589.out _; (with_reducible repeat (first | refine zD ?_ _ | refine zG ?_ | refine zE ?_ _)); refine zV ?_ NB1586_1589.out _; (with_reducible repeat (first | refine zD ?_ _ | refine zG ?_ | refine zE ?_ _)); exact BK1586.out⟩, ⟨by (with_reducible repeat (first | refine zD ?_ _ | refine zG ?_ | refine zE ?_ _)); refine zV ?_ NB1587_1589.out _; (with_reducible repeat (first | refine zD ?_ _ | refine zG ?_ | refine zE ?_ _)); refine zV ?_ NB1587_1589.out _; (with_reducible repeat (first | refine zD ?_ _ | refine zG ?_ | refine zE ?_ _)); exact BK1587.out⟩, ⟨by (with_reducible repeat (first | refine zD ?_ _ | refine zG ?_ | refine zE ?_ _)); refine zV ?_ NB1588_1589.out _; (with_reducible repeat (first | refine zD ?_ _ | refine zG ?_ | refine zE ?_ _)); refine zV ?_ NB1588_1589.out _; (with_reducible repeat (first | refine zD ?_ _ | refine zG ?_ | refine zE ?_ _)); exact BK1588.out⟩, ⟨by (with_reducible repeat (first | refine zD ?_ _ | refine zG ?_ | refine zE ?_ _)); refine zS (cs := #[.int .i64 a1_0, .int .i64 0]) ?_ 1 _ rfl; (with_reducible repeat (first | refine zD ?_ _ | refine zG ?_ | refine zE ?_ _)); refine zS (cs := #[.int .i64 0, .int .i64 0]) ?_ 0 _ rfl; (with_reducible repeat (first | refine zD ?_ _ | refine zG ?_ | refine zE ?_ _)); exact BK1589.out⟩, ⟨by repeat (first | (with_reducible first | exact HB.out | apply zI | apply zB | apply zF | refine zH ?_ GE1586.out | refine zH ?_ GE1587.out | refine zH ?_ GE1588.out | refine zH ?_ GE1589.out) | exact HB.out)⟩⟩
 case round =>
  clear H'
  try clear c1
  try clear p2
  try clear c6
  try clear c7
  try clear c10
  try clear c11
  try clear c12
  try clear hcz13_0
  try clear hcz13_1
  try clear hcz8_0
  try clear hcz8_1
  try clear hfz13_0
  try clear hfz13_1
  try clear hfz8_0
  try clear hfz8_1
  obtain ⟨x1590000_1, x1590001_1, HA, HK1, BK1586, BK1587, BK1588, BK1589, HB⟩ := hrel
  cases gk with
  | zero => exact absurd HA.out (by simp [impl_Lattice_multipleIn.l0])
  | succ k1 =>
   have H := HA.out
   clear HA
   simp only [impl_Lattice_multipleIn.l0] at H
   replace H := Option.bind_eq_some_iff.mp H
   obtain ⟨t1590, A140, H⟩ := H
   replace H : (if t1590 = true then (some (x1590000_1, x1590001_1)) else ((impl_Vec_add.f x1590000_1 x1590001_1 a1_0 a1_1).bind fun bt1591 => (impl_Lattice_multipleIn.l0 k1 a0_0 a0_1 a0_2 a1_0 a1_1 bt1591.1 bt1591.2))) = some (r1, r2) := H
   have A14 := zC.mk A140
   clear A140
   by_cases c15 : t1590 = true
   ·
    subst c15
    have H1 : (some (x1590000_1, x1590001_1)) = some (r1, r2) := by rw [if_pos rfl] at H; exact H
    clear H
    have H := H1
    clear H1
    simp only [Option.some.injEq, Prod.mk.injEq] at H
    obtain ⟨rfl, rfl⟩ := H
    have hnb16 := NB1586_1587.out
    have hnc16 := NB1587_1586.out
    have hnb17 := NB1586_1588.out
    have hnc17 := NB1588_1586.out
    have hnb18 := NB1586_1589.out
    have hnc18 := NB1589_1586.out
    have hcz19_0 : wr.cell? ⟨gb1586, 0, none⟩ = some (.int .i64 a0_0) := (zA BK1586.out 0).trans rfl
    have hcz19_1 : wr.cell? ⟨gb1586, 1, none⟩ = some (.int .i64 a0_1) := (zA BK1586.out 1).trans rfl
    have hcz19_2 : wr.cell? ⟨gb1586, 2, none⟩ = some (.int .i64 a0_2) := (zA BK1586.out 2).trans rfl
    have hfz19_0 := zJ BK1586.out 0
    have hfz19_1 := zJ BK1586.out 1
    have hfz19_2 := zJ BK1586.out 2
    have hnb20 := NB1589_1587.out
    have hnc20 := NB1587_1589.out
    have hnb21 := NB1589_1588.out
    have hnc21 := NB1588_1589.out
    have hcz22_0 : wr.cell? ⟨gb1589, 0, none⟩ = some (.int .i64 x1590000_1) := (zA BK1589.out 0).trans rfl
    have hcz22_1 : wr.cell? ⟨gb1589, 1, none⟩ = some (.int .i64 x1590001_1) := (zA BK1589.out 1).trans rfl
    have hfz22_0 := zJ BK1589.out 0
    have hfz22_1 := zJ BK1589.out 1
    go_wp2_with (first | ((with_reducible refine zR (f := 155) rfl ?_); refine zZ (some 9) rfl rfl Try.func155 (by kernel_rfl) rfl #[.agg #[.int .i64 a0_0, .int .i64 a0_1, .int .i64 a0_2], .agg #[.int .i64 x1590000_1, .int .i64 x1590001_1]] rfl (by (try simp only [List.map_toArray, List.map_cons, List.map_nil]); first | done | rfl | (simp only [List.length_drop, List.length_take]; rfl)) ?_; (with_reducible refine (impl_Lattice_has.calls a0_0 a0_1 a0_2 x1590000_1 x1590001_1 true _ A14.out).mono ?_); rintro e w23 ⟨rfl, hb⟩; refine ⟨_, rfl, ?_⟩; have n0_ := zC.mk (zK (g := gb1586) (o := .cells #[.int .i64 a0_0, .int .i64 a0_1, .int .i64 a0_2] 28 (0, 0)) (by (with_reducible repeat (first | refine zD ?_ _ | refine zG ?_ | refine zE ?_ _)); exact BK1586.out) hb); have n1_ := zC.mk (zK (g := gb1587) (o := .cells #[.int .i64 a1_0, .int .i64 a1_1] 38 (0, 0)) (by (with_reducible repeat (first | refine zD ?_ _ | refine zG ?_ | refine zE ?_ _)); exact BK1587.out) hb); have n2_ := zC.mk (zK (g := gb1588) (o := .cells #[.int .i64 0, .int .i64 0] 38 (0, 0)) (by (with_reducible repeat (first | refine zD ?_ _ | refine zG ?_ | refine zE ?_ _)); exact BK1588.out) hb); have n3_ := zC.mk (zK (g := gb1589) (o := .cells #[.int .i64 x1590000_1, .int .i64 x1590001_1] 38 (0, 0)) (by (with_reducible repeat (first | refine zD ?_ _ | refine zG ?_ | refine zE ?_ _)); exact BK1589.out) hb); have n4_ := zC.mk (zL (by repeat (first | (with_reducible first | exact HB.out | apply zI | apply zB | apply zF | refine zH ?_ GE1586.out | refine zH ?_ GE1587.out | refine zH ?_ GE1588.out | refine zH ?_ GE1589.out) | exact HB.out)) hb); clear BK1586; clear BK1587; clear BK1588; clear BK1589; clear HB; have BK1586 := n0_; have BK1587 := n1_; have BK1588 := n2_; have BK1589 := n3_; have HB := n4_; clear n0_ n1_ n2_ n3_ n4_; (try clear hb); (try clear hb2); (try clear hk); (try clear hi); have hcz24_0 : w23.cell? ⟨gb1589, 0, none⟩ = some (.int .i64 x1590000_1) := (zA BK1589.out 0).trans rfl; have hcz24_1 : w23.cell? ⟨gb1589, 1, none⟩ = some (.int .i64 x1590001_1) := (zA BK1589.out 1).trans rfl; have hfz24_0 := zJ BK1589.out 0; have hfz24_1 := zJ BK1589.out 1; have hnb25 := NB1588_1587.out; have hnc25 := NB1587_1588.out; have hcz26_0 : w23.cell? ⟨gb1588, 0, none⟩ = some (.int .i64 0) := (zA BK1588.out 0).trans rfl; have hcz26_1 : w23.cell? ⟨gb1588, 1, none⟩ = some (.int .i64 0) := (zA BK1588.out 1).trans rfl; have hfz26_0 := zJ BK1588.out 0; have hfz26_1 := zJ BK1588.out 1))
    refine bodyPost_ret (results_cell_row rfl _ _ gb1588 38 #[.int .i64 x1590000_1, .int .i64 x1590001_1] (0, 0) _ rfl (by (with_reducible repeat (first | refine zD ?_ _ | refine zG ?_ | refine zE ?_ _)); refine zS (cs := #[.int .i64 x1590000_1, .int .i64 0]) ?_ 1 _ rfl; (with_reducible repeat (first | refine zD ?_ _ | refine zG ?_ | refine zE ?_ _)); refine zS (cs := #[.int .i64 0, .int .i64 0]) ?_ 0 _ rfl; (with_reducible repeat (first | refine zD ?_ _ | refine zG ?_ | refine zE ?_ _)); exact BK1588.out) Try.underlying38 rfl (by kernel_rfl)) rfl ?_
    exact ⟨by first | rfl | (simp [errW_none, errW_some] <;> rfl) | (simp [*, errW_none, errW_some] <;> rfl), by repeat (first | (with_reducible first | exact HB.out | apply zI | apply zB | apply zF | refine zH ?_ GE1586.out | refine zH ?_ GE1587.out | refine zH ?_ GE1588.out | refine zH ?_ GE1589.out) | exact HB.out)⟩
   ·
    replace c15 := Bool.eq_false_iff.mpr c15
    subst c15
    have H1 : ((impl_Vec_add.f x1590000_1 x1590001_1 a1_0 a1_1).bind fun bt1591 => (impl_Lattice_multipleIn.l0 k1 a0_0 a0_1 a0_2 a1_0 a1_1 bt1591.1 bt1591.2)) = some (r1, r2) := by rw [if_neg (show ¬ (false = true) by decide)] at H; exact H
    clear H
    have H := H1
    clear H1
    replace H := Option.bind_eq_some_iff.mp H
    obtain ⟨⟨t1591, t1592⟩, A270, H⟩ := H
    replace H : (impl_Lattice_multipleIn.l0 k1 a0_0 a0_1 a0_2 a1_0 a1_1 t1591 t1592) = some (r1, r2) := H
    have A27 := zC.mk A270
    clear A270
    have H' := zC.mk H
    clear H
    have hnb28 := NB1586_1587.out
    have hnc28 := NB1587_1586.out
    have hnb29 := NB1586_1588.out
    have hnc29 := NB1588_1586.out
    have hnb30 := NB1586_1589.out
    have hnc30 := NB1589_1586.out
    have hcz31_0 : wr.cell? ⟨gb1586, 0, none⟩ = some (.int .i64 a0_0) := (zA BK1586.out 0).trans rfl
    have hcz31_1 : wr.cell? ⟨gb1586, 1, none⟩ = some (.int .i64 a0_1) := (zA BK1586.out 1).trans rfl
    have hcz31_2 : wr.cell? ⟨gb1586, 2, none⟩ = some (.int .i64 a0_2) := (zA BK1586.out 2).trans rfl
    have hfz31_0 := zJ BK1586.out 0
    have hfz31_1 := zJ BK1586.out 1
    have hfz31_2 := zJ BK1586.out 2
    have hnb32 := NB1589_1587.out
    have hnc32 := NB1587_1589.out
    have hnb33 := NB1589_1588.out
    have hnc33 := NB1588_1589.out
    have hcz34_0 : wr.cell? ⟨gb1589, 0, none⟩ = some (.int .i64 x1590000_1) := (zA BK1589.out 0).trans rfl
    have hcz34_1 : wr.cell? ⟨gb1589, 1, none⟩ = some (.int .i64 x1590001_1) := (zA BK1589.out 1).trans rfl
    have hfz34_0 := zJ BK1589.out 0
    have hfz34_1 := zJ BK1589.out 1
    go_wp2_with (first | ((with_reducible refine zR (f := 155) rfl ?_); refine zZ (some 9) rfl rfl Try.func155 (by kernel_rfl) rfl #[.agg #[.int .i64 a0_0, .int .i64 a0_1, .int .i64 a0_2], .agg #[.int .i64 x1590000_1, .int .i64 x1590001_1]] rfl (by (try simp only [List.map_toArray, List.map_cons, List.map_nil]); first | done | rfl | (simp only [List.length_drop, List.length_take]; rfl)) ?_; (with_reducible refine (impl_Lattice_has.calls a0_0 a0_1 a0_2 x1590000_1 x1590001_1 false _ A14.out).mono ?_); rintro e w35 ⟨rfl, hb⟩; refine ⟨_, rfl, ?_⟩; have n0_ := zC.mk (zK (g := gb1586) (o := .cells #[.int .i64 a0_0, .int .i64 a0_1, .int .i64 a0_2] 28 (0, 0)) (by (with_reducible repeat (first | refine zD ?_ _ | refine zG ?_ | refine zE ?_ _)); exact BK1586.out) hb); have n1_ := zC.mk (zK (g := gb1587) (o := .cells #[.int .i64 a1_0, .int .i64 a1_1] 38 (0, 0)) (by (with_reducible repeat (first | refine zD ?_ _ | refine zG ?_ | refine zE ?_ _)); exact BK1587.out) hb); have n2_ := zC.mk (zK (g := gb1588) (o := .cells #[.int .i64 0, .int .i64 0] 38 (0, 0)) (by (with_reducible repeat (first | refine zD ?_ _ | refine zG ?_ | refine zE ?_ _)); exact BK1588.out) hb); have n3_ := zC.mk (zK (g := gb1589) (o := .cells #[.int .i64 x1590000_1, .int .i64 x1590001_1] 38 (0, 0)) (by (with_reducible repeat (first | refine zD ?_ _ | refine zG ?_ | refine zE ?_ _)); exact BK1589.out) hb); have n4_ := zC.mk (zL (by repeat (first | (with_reducible first | exact HB.out | apply zI | apply zB | apply zF | refine zH ?_ GE1586.out | refine zH ?_ GE1587.out | refine zH ?_ GE1588.out | refine zH ?_ GE1589.out) | exact HB.out)) hb); clear BK1586; clear BK1587; clear BK1588; clear BK1589; clear HB; have BK1586 := n0_; have BK1587 := n1_; have BK1588 := n2_; have BK1589 := n3_; have HB := n4_; clear n0_ n1_ n2_ n3_ n4_; (try clear hb); (try clear hb2); (try clear hk); (try clear hi); have hcz36_0 : w35.cell? ⟨gb1589, 0, none⟩ = some (.int .i64 x1590000_1) := (zA BK1589.out 0).trans rfl; have hcz36_1 : w35.cell? ⟨gb1589, 1, none⟩ = some (.int .i64 x1590001_1) := (zA BK1589.out 1).trans rfl; have hfz36_0 := zJ BK1589.out 0; have hfz36_1 := zJ BK1589.out 1; have hnb37 := NB1587_1588.out; have hnc37 := NB1588_1587.out; have hcz38_0 : w35.cell? ⟨gb1587, 0, none⟩ = some (.int .i64 a1_0) := (zA BK1587.out 0).trans rfl; have hcz38_1 : w35.cell? ⟨gb1587, 1, none⟩ = some (.int .i64 a1_1) := (zA BK1587.out 1).trans rfl; have hfz38_0 := zJ BK1587.out 0; have hfz38_1 := zJ BK1587.out 1) | ((with_reducible refine zR (f := 122) rfl ?_); refine zZ (some 13) rfl rfl Try.func122 (by kernel_rfl) rfl #[.agg #[.int .i64 x1590000_1, .int .i64 x1590001_1], .agg #[.int .i64 a1_0, .int .i64 a1_1]] rfl (by (try simp only [List.map_toArray, List.map_cons, List.map_nil]); first | done | rfl | (simp only [List.length_drop, List.length_take]; rfl)) ?_; (with_reducible refine (impl_Vec_add.calls x1590000_1 x1590001_1 a1_0 a1_1 t1591 t1592 _ A27.out).mono ?_); rintro e w39 ⟨rfl, hb⟩; refine ⟨_, rfl, ?_⟩; have n0_ := zC.mk (zK (g := gb1586) (o := .cells #[.int .i64 a0_0, .int .i64 a0_1, .int .i64 a0_2] 28 (0, 0)) (by (with_reducible repeat (first | refine zD ?_ _ | refine zG ?_ | refine zE ?_ _)); exact BK1586.out) hb); have n1_ := zC.mk (zK (g := gb1587) (o := .cells #[.int .i64 a1_0, .int .i64 a1_1] 38 (0, 0)) (by (with_reducible repeat (first | refine zD ?_ _ | refine zG ?_ | refine zE ?_ _)); exact BK1587.out) hb); have n2_ := zC.mk (zK (g := gb1588) (o := .cells #[.int .i64 0, .int .i64 0] 38 (0, 0)) (by (with_reducible repeat (first | refine zD ?_ _ | refine zG ?_ | refine zE ?_ _)); exact BK1588.out) hb); have n3_ := zC.mk (zK (g := gb1589) (o := .cells #[.int .i64 x1590000_1, .int .i64 x1590001_1] 38 (0, 0)) (by (with_reducible repeat (first | refine zD ?_ _ | refine zG ?_ | refine zE ?_ _)); exact BK1589.out) hb); have n4_ := zC.mk (zL (by repeat (first | (with_reducible first | exact HB.out | apply zI | apply zB | apply zF | refine zH ?_ GE1586.out | refine zH ?_ GE1587.out | refine zH ?_ GE1588.out | refine zH ?_ GE1589.out) | exact HB.out)) hb); clear BK1586; clear BK1587; clear BK1588; clear BK1589; clear HB; have BK1586 := n0_; have BK1587 := n1_; have BK1588 := n2_; have BK1589 := n3_; have HB := n4_; clear n0_ n1_ n2_ n3_ n4_; (try clear hb); (try clear hb2); (try clear hk); (try clear hi); have hcz40_0 : w39.cell? ⟨gb1589, 0, none⟩ = some (.int .i64 x1590000_1) := (zA BK1589.out 0).trans rfl; have hcz40_1 : w39.cell? ⟨gb1589, 1, none⟩ = some (.int .i64 x1590001_1) := (zA BK1589.out 1).trans rfl; have hfz40_0 := zJ BK1589.out 0; have hfz40_1 := zJ BK1589.out 1))
    go_roundg k1
    case measure => have := HK1.out; omega
    case rel => exact ⟨(t1591), (t1592), H', ⟨by have := HK1.out; omega⟩, ⟨by (with_reducible repeat (first | refine zD ?_ _ | refine zG ?_ | refine zE ?_ _)); refine zV ?_ NB1586_1589.out _; (with_reducible repeat (first | refine zD ?_ _ | refine zG ?_ | refine zE ?_ _)); refine zV ?_ NB1586_1589.out _; (with_reducible repeat (first | refine zD ?_ _ | refine zG ?_ | refine zE ?_ _)); exact BK1586.out⟩, ⟨by (with_reducible repeat (first | refine zD ?_ _ | refine zG ?_ | refine zE ?_ _)); refine zV ?_ NB1587_1589.out _; (with_reducible repeat (first | refine zD ?_ _ | refine zG ?_ | refine zE ?_ _)); refine zV ?_ NB1587_1589.out _; (with_reducible repeat (first | refine zD ?_ _ | refine zG ?_ | refine zE ?_ _)); exact BK1587.out⟩, ⟨by (with_reducible repeat (first | refine zD ?_ _ | refine zG ?_ | refine zE ?_ _)); refine zV ?_ NB1588_1589.out _; (with_reducible repeat (first | refine zD ?_ _ | refine zG ?_ | refine zE ?_ _)); refine zV ?_ NB1588_1589.out _; (with_reducible repeat (first | refine zD ?_ _ | refine zG ?_ | refine zE ?_ _)); exact BK1588.out⟩, ⟨by (with_reducible repeat (first | refine zD ?_ _ | refine zG ?_ | refine zE ?_ _)); refine zS (cs := #[.int .i64 t1591, .int .i64 x1590001_1]) ?_ 1 _ rfl; (with_reducible repeat (first | refine zD ?_ _ | refine zG ?_ | refine zE ?_ _)); refine zS (cs := #[.int .i64 x1590000_1, .int .i64 x1590001_1]) ?_ 0 _ rfl; (with_reducible repeat (first | refine zD ?_ _ | refine zG ?_ | refine zE ?_ _)); exact BK1589.out⟩, ⟨by repeat (first | (with_reducible first | exact HB.out | apply zI | apply zB | apply zF | refine zH ?_ GE1586.out | refine zH ?_ GE1587.out | refine zH ?_ GE1588.out | refine zH ?_ GE1589.out) | exact HB.out)⟩⟩


/-! ### impl_Lattice_repeat: function 108 -/
theorem fld108_38_0 (a b : Int) (w : World) : (Instr.field 38 (.agg #[.int .i64 a, .int .i64 b]) 0).run Try.prog w = .ok (.int .i64 a) w := by kernel_rfl
theorem fld108_38_1 (a b : Int) (w : World) : (Instr.field 38 (.agg #[.int .i64 a, .int .i64 b]) 1).run Try.prog w = .ok (.int .i64 b) w := by kernel_rfl
attribute [local go_sem] fld108_38_0 fld108_38_1
set_option maxHeartbeats 8000000 in
set_option maxRecDepth 100000 in
theorem impl_Lattice_repeat.calls (k : Nat) (a0_0 : Int) (a0_1 : Int) (a0_2 : Int) (r : Int) (w : World) (h : impl_Lattice_repeat.f k a0_0 a0_1 a0_2 = some r) :
  Calls Try.prog 108 #[.agg #[.int .i64 a0_0, .int .i64 a0_1, .int .i64 a0_2]] w fun e w' => e = .returned (.int .i64 r) ∧ Below w.heap.size w w' := by
 have hu28 := Try.underlying28
 have hu38 := Try.underlying38
 have HB := zC.mk (Below.refl w.heap.size w)
 have H : ((impl_Lattice_multipleIn.f k a0_0 a0_1 a0_2 0 1).bind fun bt1594 => (some bt1594.2)) = some r := h
 clear h
 replace H := Option.bind_eq_some_iff.mp H
 obtain ⟨⟨t1594, t1595⟩, A20, H⟩ := H
 replace H : (some t1595) = some r := H
 have A2 := zC.mk A20
 clear A20
 obtain rfl := Option.some.inj H
 go_enter Try.func108, Try.ntmps108
 go_wp2_with (first | ((with_reducible refine zQ (N := 1) rfl ?_); refine zN ?hg (N := 1) ?hd (cs := #[.int .i64 a0_0, .int .i64 a0_1, .int .i64 a0_2]) (t := 28) ?hr ?_; (case hd => rfl); (case hg => rfl); (case hr => first | (go_simp; done) | (go_simp; rfl)); intro gb1593 hg w3 hbox hb; have n0_ := zC.mk (zL (by repeat (first | (with_reducible first | exact HB.out | apply zI | apply zB | apply zF) | exact HB.out)) hb); have n1_ := zC.mk (hbox); have n2_ := zC.mk ((by rw [hg]; exact (zM (by repeat (first | (with_reducible first | exact HB.out | apply zI | apply zB | apply zF) | exact HB.out))) : w.heap.size ≤ gb1593)); have n3_ := n2_; clear HB; have HB := n0_; have BK1593 := n1_; have GW1593 := n2_; have GE1593 := n3_; clear n0_ n1_ n2_ n3_; clear hb hbox hg; have hcz4_0 : w3.cell? ⟨gb1593, 0, none⟩ = some (.int .i64 a0_0) := (zA BK1593.out 0).trans rfl; have hcz4_1 : w3.cell? ⟨gb1593, 1, none⟩ = some (.int .i64 a0_1) := (zA BK1593.out 1).trans rfl; have hcz4_2 : w3.cell? ⟨gb1593, 2, none⟩ = some (.int .i64 a0_2) := (zA BK1593.out 2).trans rfl; have hfz4_0 := zJ BK1593.out 0; have hfz4_1 := zJ BK1593.out 1; have hfz4_2 := zJ BK1593.out 2) | ((with_reducible refine zR (f := 154) rfl ?_); refine zZ (some 5) rfl rfl Try.func154 (by kernel_rfl) rfl #[.agg #[.int .i64 a0_0, .int .i64 a0_1, .int .i64 a0_2], .agg #[.int .i64 0, .int .i64 1]] rfl (by (try simp only [List.map_toArray, List.map_cons, List.map_nil]); first | done | rfl | (simp only [List.length_drop, List.length_take]; rfl)) ?_; (with_reducible refine (impl_Lattice_multipleIn.calls k a0_0 a0_1 a0_2 0 1 t1594 t1595 _ A2.out).mono ?_); rintro e w5 ⟨rfl, hb⟩; refine ⟨_, rfl, ?_⟩; have n0_ := zC.mk (zK (g := gb1593) (o := .cells #[.int .i64 a0_0, .int .i64 a0_1, .int .i64 a0_2] 28 (0, 0)) (by (with_reducible repeat (first | refine zD ?_ _ | refine zG ?_ | refine zE ?_ _)); exact BK1593.out) hb); have n1_ := zC.mk (zL (by repeat (first | (with_reducible first | exact HB.out | apply zI | apply zB | apply zF | refine zH ?_ GE1593.out) | exact HB.out)) hb); clear BK1593; clear HB; have BK1593 := n0_; have HB := n1_; clear n0_ n1_; (try clear hb); (try clear hb2); (try clear hk); (try clear hi)))
 go_ret
 exact ⟨by first | rfl | (simp [errW_none, errW_some] <;> rfl) | (simp [*, errW_none, errW_some] <;> rfl), by repeat (first | (with_reducible first | exact HB.out | apply zI | apply zB | apply zF | refine zH ?_ GE1593.out) | exact HB.out)⟩


/-! ### impl_isRoll: function 109 -/
set_option maxHeartbeats 8000000 in
set_option maxRecDepth 100000 in
theorem impl_isRoll.calls (a0 : Int) (r : Bool) (w : World) (h : impl_isRoll.f a0 = some r) :
  Calls Try.prog 109 #[.int .i64 a0] w fun e w' => e = .returned (.bool r) ∧ Drawn0 w w' := by
 have H : ((impl_within.f a0 1 1000).bind fun t1640 => (some t1640)) = some r := h
 clear h
 replace H := Option.bind_eq_some_iff.mp H
 obtain ⟨t1640, A20, H⟩ := H
 replace H : (some t1640) = some r := H
 have A2 := zC.mk A20
 clear A20
 obtain rfl := Option.some.inj H
 go_enter Try.func109, Try.ntmps109
 go_wp2_with (first | ((with_reducible refine zR (f := 114) rfl ?_); refine zZ (some 4) rfl rfl Try.func114 (by kernel_rfl) rfl #[.int .i64 a0, .int .i64 1, .int .i64 1000] rfl (by (try simp only [List.map_toArray, List.map_cons, List.map_nil]); first | done | rfl | (simp only [List.length_drop, List.length_take]; rfl)) ?_; (with_reducible refine (impl_within.calls a0 1 1000 t1640 _ A2.out).mono ?_); rintro e w' ⟨rfl, ⟨nd, rfl⟩⟩; refine ⟨_, rfl, ?_⟩))
 go_ret
 exact ⟨by first | rfl | (simp; done) | (simp [*]; done), by repeat (first | exact Drawn0.refl _ | apply Drawn0.step)⟩


/-! ### impl_Lattice_drop: function 111 -/
set_option maxHeartbeats 8000000 in
set_option maxRecDepth 100000 in
theorem impl_Lattice_drop.calls (k : Nat) (a0_0 : Int) (a0_1 : Int) (a0_2 : Int) (a1 : Int) (r : Int) (w : World) (h : impl_Lattice_drop.f k a0_0 a0_1 a0_2 a1 = some r) :
  Calls Try.prog 111 #[.agg #[.int .i64 a0_0, .int .i64 a0_1, .int .i64 a0_2], .int .i64 a1] w fun e w' => e = .returned (.int .i64 r) ∧ Below w.heap.size w w' := by
 have hu28 := Try.underlying28
 have hu38 := Try.underlying38
 have HB := zC.mk (Below.refl w.heap.size w)
 have H : ((impl_Lattice_repeat.f k a0_0 a0_1 a0_2).bind fun t1691 => (impl_Lattice_drop.l0 k a1 t1691 0 a0_0 a0_1 a0_2)) = some r := h
 clear h
 replace H := Option.bind_eq_some_iff.mp H
 obtain ⟨t1691, A30, H⟩ := H
 replace H : (impl_Lattice_drop.l0 k a1 t1691 0 a0_0 a0_1 a0_2) = some r := H
 have A3 := zC.mk A30
 clear A30
 have H' := zC.mk H
 clear H
 go_enter Try.func111, Try.ntmps111
 go_wp2_with (first | ((with_reducible refine zQ (N := 2) rfl ?_); refine zN ?hg (N := 2) ?hd (cs := #[.int .i64 a0_0, .int .i64 a0_1, .int .i64 a0_2]) (t := 28) ?hr ?_; (case hd => rfl); (case hg => rfl); (case hr => first | (go_simp; done) | (go_simp; rfl)); intro gb1690 hg w4 hbox hb; have n0_ := zC.mk (zL (by repeat (first | (with_reducible first | exact HB.out | apply zI | apply zB | apply zF) | exact HB.out)) hb); have n1_ := zC.mk (hbox); have n2_ := zC.mk ((by rw [hg]; exact (zM (by repeat (first | (with_reducible first | exact HB.out | apply zI | apply zB | apply zF) | exact HB.out))) : w.heap.size ≤ gb1690)); have n3_ := n2_; clear HB; have HB := n0_; have BK1690 := n1_; have GW1690 := n2_; have GE1690 := n3_; clear n0_ n1_ n2_ n3_; clear hb hbox hg; have hcz5_0 : w4.cell? ⟨gb1690, 0, none⟩ = some (.int .i64 a0_0) := (zA BK1690.out 0).trans rfl; have hcz5_1 : w4.cell? ⟨gb1690, 1, none⟩ = some (.int .i64 a0_1) := (zA BK1690.out 1).trans rfl; have hcz5_2 : w4.cell? ⟨gb1690, 2, none⟩ = some (.int .i64 a0_2) := (zA BK1690.out 2).trans rfl; have hfz5_0 := zJ BK1690.out 0; have hfz5_1 := zJ BK1690.out 1; have hfz5_2 := zJ BK1690.out 2) | ((with_reducible refine zR (f := 108) rfl ?_); refine zZ (some 7) rfl rfl Try.func108 (by kernel_rfl) rfl #[.agg #[.int .i64 a0_0, .int .i64 a0_1, .int .i64 a0_2]] rfl (by (try simp only [List.map_toArray, List.map_cons, List.map_nil]); first | done | rfl | (simp only [List.length_drop, List.length_take]; rfl)) ?_; (with_reducible refine (impl_Lattice_repeat.calls k a0_0 a0_1 a0_2 t1691 _ A3.out).mono ?_); rintro e w6 ⟨rfl, hb⟩; refine ⟨_, rfl, ?_⟩; have n0_ := zC.mk (zK (g := gb1690) (o := .cells #[.int .i64 a0_0, .int .i64 a0_1, .int .i64 a0_2] 28 (0, 0)) (by (with_reducible repeat (first | refine zD ?_ _ | refine zG ?_ | refine zE ?_ _)); exact BK1690.out) hb); have n1_ := zC.mk (zL (by repeat (first | (with_reducible first | exact HB.out | apply zI | apply zB | apply zF | refine zH ?_ GE1690.out) | exact HB.out)) hb); clear BK1690; clear HB; have BK1690 := n0_; have HB := n1_; clear n0_ n1_; (try clear hb); (try clear hb2); (try clear hk); (try clear hi)))
 go_loopg [8] k (fun kq v8 w' => ∃ (x8_1 : Int), v8 = .int .i64 x8_1 ∧ zC (impl_Lattice_drop.l0 kq a1 t1691 x8_1 a0_0 a0_1 a0_2 = some r) ∧ zC (kq ≤ k) ∧ zC (w'.heap[gb1690]? = some (.cells #[.int .i64 a0_0, .int .i64 a0_1, .int .i64 a0_2] 28 (0, 0))) ∧ zC (Below w.heap.size w w'))
 case atStart => exact ⟨(0), (by first | rfl | (simp; done) | (simp [*]; done)), H', ⟨Nat.le_refl _⟩, ⟨by (with_reducible repeat (first | refine zD ?_ _ | refine zG ?_ | refine zE ?_ _)); exact BK1690.out⟩, ⟨by repeat (first | (with_reducible first | exact HB.out | apply zI | apply zB | apply zF | refine zH ?_ GE1690.out) | exact HB.out)⟩⟩
 case round =>
  clear H'
  try clear c1
  try clear p2
  try clear hcz5_0
  try clear hcz5_1
  try clear hcz5_2
  try clear hfz5_0
  try clear hfz5_1
  try clear hfz5_2
  obtain ⟨x8_1, rfl, HA, HK1, BK1690, HB⟩ := hrel
  cases gk with
  | zero => exact absurd HA.out (by simp [impl_Lattice_drop.l0])
  | succ k1 =>
   have H := HA.out
   clear HA
   simp only [impl_Lattice_drop.l0] at H
   by_cases c7 : x8_1 < t1691
   ·
    rw [if_pos c7] at H
    have c7b0 : decide (x8_1 < t1691) = true := decide_eq_true c7
    clear c7
    replace H := Option.bind_eq_some_iff.mp H
    obtain ⟨t1692, A80, H⟩ := H
    replace H : (if t1692 = true then (some x8_1) else (impl_Lattice_drop.l0 k1 a1 t1691 (wrap64 (x8_1 + 1)) a0_0 a0_1 a0_2)) = some r := H
    have A8 := zC.mk A80
    clear A80
    by_cases c9 : t1692 = true
    ·
     subst c9
     have H1 : (some x8_1) = some r := by rw [if_pos rfl] at H; exact H
     clear H
     have H := H1
     clear H1
     obtain rfl := Option.some.inj H
     have hcz10_0 : wr.cell? ⟨gb1690, 0, none⟩ = some (.int .i64 a0_0) := (zA BK1690.out 0).trans rfl
     have hcz10_1 : wr.cell? ⟨gb1690, 1, none⟩ = some (.int .i64 a0_1) := (zA BK1690.out 1).trans rfl
     have hcz10_2 : wr.cell? ⟨gb1690, 2, none⟩ = some (.int .i64 a0_2) := (zA BK1690.out 2).trans rfl
     have hfz10_0 := zJ BK1690.out 0
     have hfz10_1 := zJ BK1690.out 1
     have hfz10_2 := zJ BK1690.out 2
     go_wp2_with (first | ((with_reducible refine zR (f := 155) rfl ?_); refine zZ (some 16) rfl rfl Try.func155 (by kernel_rfl) rfl #[.agg #[.int .i64 a0_0, .int .i64 a0_1, .int .i64 a0_2], .agg #[.int .i64 a1, .int .i64 (wrap64 (-x8_1))]] rfl (by (try simp only [List.map_toArray, List.map_cons, List.map_nil]); first | done | rfl | (simp only [List.length_drop, List.length_take]; rfl)) ?_; (with_reducible refine (impl_Lattice_has.calls a0_0 a0_1 a0_2 a1 (wrap64 (-x8_1)) true _ A8.out).mono ?_); rintro e w11 ⟨rfl, hb⟩; refine ⟨_, rfl, ?_⟩; have n0_ := zC.mk (zK (g := gb1690) (o := .cells #[.int .i64 a0_0, .int .i64 a0_1, .int .i64 a0_2] 28 (0, 0)) (by (with_reducible repeat (first | refine zD ?_ _ | refine zG ?_ | refine zE ?_ _)); exact BK1690.out) hb); have n1_ := zC.mk (zL (by repeat (first | (with_reducible first | exact HB.out | apply zI | apply zB | apply zF | refine zH ?_ GE1690.out) | exact HB.out)) hb); clear BK1690; clear HB; have BK1690 := n0_; have HB := n1_; clear n0_ n1_; (try clear hb); (try clear hb2); (try clear hk); (try clear hi)))
     go_ret
     exact ⟨by first | rfl | (simp [errW_none, errW_some] <;> rfl) | (simp [*, errW_none, errW_some] <;> rfl), by repeat (first | (with_reducible first | exact HB.out | apply zI | apply zB | apply zF | refine zH ?_ GE1690.out) | exact HB.out)⟩
    ·
     replace c9 := Bool.eq_false_iff.mpr c9
     subst c9
     have H1 : (impl_Lattice_drop.l0 k1 a1 t1691 (wrap64 (x8_1 + 1)) a0_0 a0_1 a0_2) = some r := by rw [if_neg (show ¬ (false = true) by decide)] at H; exact H
     clear H
     have H := H1
     clear H1
     have H' := zC.mk H
     clear H
     have hcz12_0 : wr.cell? ⟨gb1690, 0, none⟩ = some (.int .i64 a0_0) := (zA BK1690.out 0).trans rfl
     have hcz12_1 : wr.cell? ⟨gb1690, 1, none⟩ = some (.int .i64 a0_1) := (zA BK1690.out 1).trans rfl
     have hcz12_2 : wr.cell? ⟨gb1690, 2, none⟩ = some (.int .i64 a0_2) := (zA BK1690.out 2).trans rfl
     have hfz12_0 := zJ BK1690.out 0
     have hfz12_1 := zJ BK1690.out 1
     have hfz12_2 := zJ BK1690.out 2
     go_wp2_with (first | ((with_reducible refine zR (f := 155) rfl ?_); refine zZ (some 16) rfl rfl Try.func155 (by kernel_rfl) rfl #[.agg #[.int .i64 a0_0, .int .i64 a0_1, .int .i64 a0_2], .agg #[.int .i64 a1, .int .i64 (wrap64 (-x8_1))]] rfl (by (try simp only [List.map_toArray, List.map_cons, List.map_nil]); first | done | rfl | (simp only [List.length_drop, List.length_take]; rfl)) ?_; (with_reducible refine (impl_Lattice_has.calls a0_0 a0_1 a0_2 a1 (wrap64 (-x8_1)) false _ A8.out).mono ?_); rintro e w13 ⟨rfl, hb⟩; refine ⟨_, rfl, ?_⟩; have n0_ := zC.mk (zK (g := gb1690) (o := .cells #[.int .i64 a0_0, .int .i64 a0_1, .int .i64 a0_2] 28 (0, 0)) (by (with_reducible repeat (first | refine zD ?_ _ | refine zG ?_ | refine zE ?_ _)); exact BK1690.out) hb); have n1_ := zC.mk (zL (by repeat (first | (with_reducible first | exact HB.out | apply zI | apply zB | apply zF | refine zH ?_ GE1690.out) | exact HB.out)) hb); clear BK1690; clear HB; have BK1690 := n0_; have HB := n1_; clear n0_ n1_; (try clear hb); (try clear hb2); (try clear hk); (try clear hi)))
     go_roundg k1
     case measure => have := HK1.out; omega
     case rel => exact ⟨(wrap64 (x8_1 + 1)), (by first | rfl | (simp; done) | (simp [*]; done)), H', ⟨by have := HK1.out; omega⟩, ⟨by (with_reducible repeat (first | refine zD ?_ _ | refine zG ?_ | refine zE ?_ _)); exact BK1690.out⟩, ⟨by repeat (first | (with_reducible first | exact HB.out | apply zI | apply zB | apply zF | refine zH ?_ GE1690.out) | exact HB.out)⟩⟩
   ·
    rw [if_neg c7] at H
    have c7b0 : decide (x8_1 < t1691) = false := decide_eq_false c7
    clear c7
    obtain rfl := Option.some.inj H
    go_wp2
    go_ret
    exact ⟨by first | rfl | (simp [errW_none, errW_some] <;> rfl) | (simp [*, errW_none, errW_some] <;> rfl), by repeat (first | (with_reducible first | exact HB.out | apply zI | apply zB | apply zF | refine zH ?_ GE1690.out) | exact HB.out)⟩


/-! ### impl_panels: function 112 -/
set_option maxHeartbeats 8000000 in
set_option maxRecDepth 100000 in
theorem impl_panels.calls (k : Nat) (a0_0 : Int) (a0_1 : Int) (a0_2 : Int) (a0_3 : Int) (A0_4 : Option Addr) (c0_4 : Nat) (l0_4 : List Int) (a1 : Int) (a2 : Bool) (r1 : Int) (r2 : Int) (r3 : Int) (w : World) (hr0_4 : Kd.C (Kd.int .i64) w A0_4 l0_4.length l0_4) (hc0_4 : l0_4.length ≤ c0_4) (h : impl_panels.f k a0_0 a0_1 a0_2 a0_3 l0_4 a1 a2 = some (r1, r2, r3)) :
  Calls Try.prog 112 #[.agg #[.int .i64 a0_0, .int .i64 a0_1, .int .i64 a0_2, .int .i64 a0_3, .slice A0_4 l0_4.length c0_4], .int .i64 a1, .bool a2] w fun e w' => e = .returned (.tuple #[.int .i64 r1, .int .i64 r2, .int .i64 r3]) ∧ Below w.heap.size w w' := by
 have hu30 := Try.underlying30
 have hu28 := Try.underlying28
 have HR0_4 := zC.mk hr0_4
 have HC0_4 := zC.mk hc0_4
 clear hr0_4 hc0_4
 have HB := zC.mk (Below.refl w.heap.size w)
 have H : ((impl_rollLattice.f k a0_0 a0_1 a0_2 a0_3 l0_4).bind fun bt1742 => (if bt1742.2.2.2 = 0 then ((impl_isRoll.f a1).bind fun t1747 => (if t1747 = true then (impl_panels.j0 k a1 (!a2) bt1742.1 bt1742.2.1 bt1742.2.2.1) else (impl_panels.j0 k a1 true bt1742.1 bt1742.2.1 bt1742.2.2.1))) else (some (0, 0, bt1742.2.2.2)))) = some (r1, r2, r3) := h
 clear h
 replace H := Option.bind_eq_some_iff.mp H
 obtain ⟨⟨t1742, t1743, t1744, t1745⟩, A40, H⟩ := H
 replace H : (if t1745 = 0 then ((impl_isRoll.f a1).bind fun t1747 => (if t1747 = true then (impl_panels.j0 k a1 (!a2) t1742 t1743 t1744) else (impl_panels.j0 k a1 true t1742 t1743 t1744))) else (some (0, 0, t1745))) = some (r1, r2, r3) := H
 have A4 := zC.mk A40
 clear A40
 by_cases c5 : t1745 = 0
 ·
  rw [if_pos c5] at H
  have c5b0 : (t1745 == 0) = true := beq_iff_eq.mpr c5
  have c5b1 : (t1745 != 0) = false := bne_eq_false_iff_eq.mpr c5
  clear c5
  have HC6 := zC.mk H
  clear H
  go_enter Try.func112, Try.ntmps112
  go_upto_region 4 with (first | ((with_reducible refine zQ (N := 3) rfl ?_); refine zN ?hg (N := 3) ?hd (cs := #[.int .i64 a0_0, .int .i64 a0_1, .int .i64 a0_2, .int .i64 a0_3, .slice A0_4 l0_4.length c0_4]) (t := 30) ?hr ?_; (case hd => rfl); (case hg => rfl); (case hr => first | (go_simp; done) | (go_simp; rfl)); intro gb1741 hg w7 hbox hb; have n0_ := zC.mk (zL (by repeat (first | (with_reducible first | exact HB.out | apply zI | apply zB | apply zF) | exact HB.out)) hb); have n1_ := zC.mk (hbox); have n2_ := zC.mk ((by rw [hg]; exact (zM (by repeat (first | (with_reducible first | exact HB.out | apply zI | apply zB | apply zF) | exact HB.out))) : w.heap.size ≤ gb1741)); have n3_ := n2_; clear HB; have HB := n0_; have BK1741 := n1_; have GW1741 := n2_; have GE1741 := n3_; clear n0_ n1_ n2_ n3_; clear hb hbox hg; have hcz8_0 : w7.cell? ⟨gb1741, 0, none⟩ = some (.int .i64 a0_0) := (zA BK1741.out 0).trans rfl; have hcz8_1 : w7.cell? ⟨gb1741, 1, none⟩ = some (.int .i64 a0_1) := (zA BK1741.out 1).trans rfl; have hcz8_2 : w7.cell? ⟨gb1741, 2, none⟩ = some (.int .i64 a0_2) := (zA BK1741.out 2).trans rfl; have hcz8_3 : w7.cell? ⟨gb1741, 3, none⟩ = some (.int .i64 a0_3) := (zA BK1741.out 3).trans rfl; have hcz8_4 : w7.cell? ⟨gb1741, 4, none⟩ = some (.slice A0_4 l0_4.length c0_4) := (zA BK1741.out 4).trans rfl; have hfz8_0 := zJ BK1741.out 0; have hfz8_1 := zJ BK1741.out 1; have hfz8_2 := zJ BK1741.out 2; have hfz8_3 := zJ BK1741.out 3; have hfz8_4 := zJ BK1741.out 4) | ((with_reducible refine zR (f := 107) rfl ?_); refine zZ (some 14) rfl rfl Try.func107 (by kernel_rfl) rfl #[.agg #[.int .i64 a0_0, .int .i64 a0_1, .int .i64 a0_2, .int .i64 a0_3, .slice A0_4 l0_4.length c0_4]] rfl (by (try simp only [List.map_toArray, List.map_cons, List.map_nil]); first | done | rfl | (simp only [List.length_drop, List.length_take]; rfl)) ?_; (with_reducible refine (impl_rollLattice.calls k a0_0 a0_1 a0_2 a0_3 _ _ l0_4 t1742 t1743 t1744 t1745 _ ?side1 ?side2 A4.out).mono ?_); (case side1 => repeat (first | exact (Kd.C_below HR0_4.out HB.out) | (with_reducible refine Kd.C_alloc ?_ _) | (with_reducible refine Kd.C_drewN ?_ _) | (with_reducible refine Kd.C_drew ?_))); (case side2 => exact HC0_4.out); rintro e w9 ⟨rfl, hb⟩; refine ⟨_, rfl, ?_⟩; have n0_ := zC.mk (zK (g := gb1741) (o := .cells #[.int .i64 a0_0, .int .i64 a0_1, .int .i64 a0_2, .int .i64 a0_3, .slice A0_4 l0_4.length c0_4] 30 (0, 0)) (by (with_reducible repeat (first | refine zD ?_ _ | refine zG ?_ | refine zE ?_ _)); exact BK1741.out) hb); have n1_ := zC.mk (zL (by repeat (first | (with_reducible first | exact HB.out | apply zI | apply zB | apply zF | refine zH ?_ GE1741.out) | exact HB.out)) hb); clear BK1741; clear HB; have BK1741 := n0_; have HB := n1_; clear n0_ n1_; (try clear hb); (try clear hb2); (try clear hk); (try clear hi)) | ((with_reducible refine zQ (N := 9) rfl ?_); refine zN ?hg (N := 9) ?hd (cs := #[.int .i64 0, .int .i64 0, .int .i64 0]) (t := 28) ?hr ?_; (case hd => rfl); (case hg => rfl); (case hr => first | (go_simp; done) | (go_simp; rfl)); intro gb1746 hg w10 hbox hb; have n0_ := zC.mk (zK (g := gb1741) (o := .cells #[.int .i64 a0_0, .int .i64 a0_1, .int .i64 a0_2, .int .i64 a0_3, .slice A0_4 l0_4.length c0_4] 30 (0, 0)) (by (with_reducible repeat (first | refine zD ?_ _ | refine zG ?_ | refine zE ?_ _)); exact BK1741.out) hb); have n1_ := zC.mk (zL (by repeat (first | (with_reducible first | exact HB.out | apply zI | apply zB | apply zF | refine zH ?_ GE1741.out) | exact HB.out)) hb); have n2_ := zC.mk (hbox); have n3_ := zC.mk ((by rw [hg]; exact (zM (by repeat (first | (with_reducible first | exact HB.out | apply zI | apply zB | apply zF | refine zH ?_ GE1741.out) | exact HB.out))) : w.heap.size ≤ gb1746)); have n4_ := n3_; have n5_ := zC.mk ((by rw [hg]; exact Nat.ne_of_lt (zX (by (with_reducible repeat (first | refine zD ?_ _ | refine zG ?_ | refine zE ?_ _)); exact BK1741.out)) : gb1741 ≠ gb1746)); have n6_ := zC.mk n5_.out.symm; clear BK1741; clear HB; have BK1741 := n0_; have HB := n1_; have BK1746 := n2_; have GW1746 := n3_; have GE1746 := n4_; have NB1741_1746 := n5_; have NB1746_1741 := n6_; clear n0_ n1_ n2_ n3_ n4_ n5_ n6_; clear hb hbox hg; have hnb11 := NB1746_1741.out; have hnc11 := NB1741_1746.out; have hcz12_0 : w10.cell? ⟨gb1746, 0, none⟩ = some (.int .i64 0) := (zA BK1746.out 0).trans rfl; have hcz12_1 : w10.cell? ⟨gb1746, 1, none⟩ = some (.int .i64 0) := (zA BK1746.out 1).trans rfl; have hcz12_2 : w10.cell? ⟨gb1746, 2, none⟩ = some (.int .i64 0) := (zA BK1746.out 2).trans rfl; have hfz12_0 := zJ BK1746.out 0; have hfz12_1 := zJ BK1746.out 1; have hfz12_2 := zJ BK1746.out 2))
  (try simp only [Act.put, List.setIfInBounds_toArray, List.set_cons_zero, List.set_cons_succ])
  go_cut [26] (fun v26 wc => ∃ (kq : Nat) (x26_5 : Bool), v26 = .bool x26_5 ∧ zC (impl_panels.j0 kq a1 x26_5 t1742 t1743 t1744 = some (r1, r2, r3)) ∧ zC (kq ≤ k) ∧ zC (wc.heap[gb1741]? = some (.cells #[.int .i64 a0_0, .int .i64 a0_1, .int .i64 a0_2, .int .i64 a0_3, (.slice A0_4 l0_4.length c0_4)] 30 (0, 0))) ∧ zC (wc.heap[gb1746]? = some (.cells #[.int .i64 t1742, .int .i64 t1743, .int .i64 t1744] 28 (0, 0))) ∧ zC (Below w.heap.size w wc))
  case first =>
   have H := HC6.out
   clear HC6
   replace H := Option.bind_eq_some_iff.mp H
   obtain ⟨t1747, A130, H⟩ := H
   replace H : (if t1747 = true then (impl_panels.j0 k a1 (!a2) t1742 t1743 t1744) else (impl_panels.j0 k a1 true t1742 t1743 t1744)) = some (r1, r2, r3) := H
   have A13 := zC.mk A130
   clear A130
   by_cases c14 : t1747 = true
   ·
    subst c14
    have H1 : (impl_panels.j0 k a1 (!a2) t1742 t1743 t1744) = some (r1, r2, r3) := by rw [if_pos rfl] at H; exact H
    clear H
    have H := H1
    clear H1
    have H' := zC.mk H
    clear H
    go_wp2_with (first | ((with_reducible refine zR (f := 109) rfl ?_); refine zZ (some 21) rfl rfl Try.func109 (by kernel_rfl) rfl #[.int .i64 a1] rfl (by (try simp only [List.map_toArray, List.map_cons, List.map_nil]); first | done | rfl | (simp only [List.length_drop, List.length_take]; rfl)) ?_; (with_reducible refine (impl_isRoll.calls a1 true _ A13.out).mono ?_); rintro e w' ⟨rfl, ⟨nd, rfl⟩⟩; refine ⟨_, rfl, ?_⟩))
    go_meet
    case rel => exact ⟨_, (!a2), (by first | rfl | (simp; done) | (simp [*]; done)), H', ⟨by first | omega | exact Nat.le_refl _⟩, ⟨by (with_reducible repeat (first | refine zD ?_ _ | refine zG ?_ | refine zE ?_ _)); refine zV ?_ NB1741_1746.out _; (with_reducible repeat (first | refine zD ?_ _ | refine zG ?_ | refine zE ?_ _)); refine zV ?_ NB1741_1746.out _; (with_reducible repeat (first | refine zD ?_ _ | refine zG ?_ | refine zE ?_ _)); refine zV ?_ NB1741_1746.out _; (with_reducible repeat (first | refine zD ?_ _ | refine zG ?_ | refine zE ?_ _)); exact BK1741.out⟩, ⟨by (with_reducible repeat (first | refine zD ?_ _ | refine zG ?_ | refine zE ?_ _)); refine zS (cs := #[.int .i64 t1742, .int .i64 t1743, .int .i64 0]) ?_ 2 _ rfl; (with_reducible repeat (first | refine zD ?_ _ | refine zG ?_ | refine zE ?_ _)); refine zS (cs := #[.int .i64 t1742, .int .i64 0, .int .i64 0]) ?_ 1 _ rfl; (with_reducible repeat (first | refine zD ?_ _ | refine zG ?_ | refine zE ?_ _)); refine zS (cs := #[.int .i64 0, .int .i64 0, .int .i64 0]) ?_ 0 _ rfl; (with_reducible repeat (first | refine zD ?_ _ | refine zG ?_ | refine zE ?_ _)); exact BK1746.out⟩, ⟨by repeat (first | (with_reducible first | exact HB.out | apply zI | apply zB | apply zF | refine zH ?_ GE1741.out | refine zH ?_ GE1746.out) | exact HB.out)⟩⟩
   ·
    replace c14 := Bool.eq_false_iff.mpr c14
    subst c14
    have H1 : (impl_panels.j0 k a1 true t1742 t1743 t1744) = some (r1, r2, r3) := by rw [if_neg (show ¬ (false = true) by decide)] at H; exact H
    clear H
    have H := H1
    clear H1
    have H' := zC.mk H
    clear H
    go_wp2_with (first | ((with_reducible refine zR (f := 109) rfl ?_); refine zZ (some 21) rfl rfl Try.func109 (by kernel_rfl) rfl #[.int .i64 a1] rfl (by (try simp only [List.map_toArray, List.map_cons, List.map_nil]); first | done | rfl | (simp only [List.length_drop, List.length_take]; rfl)) ?_; (with_reducible refine (impl_isRoll.calls a1 false _ A13.out).mono ?_); rintro e w' ⟨rfl, ⟨nd, rfl⟩⟩; refine ⟨_, rfl, ?_⟩))
    go_meet
    case rel => exact ⟨_, (true), (by first | rfl | (simp; done) | (simp [*]; done)), H', ⟨by first | omega | exact Nat.le_refl _⟩, ⟨by (with_reducible repeat (first | refine zD ?_ _ | refine zG ?_ | refine zE ?_ _)); refine zV ?_ NB1741_1746.out _; (with_reducible repeat (first | refine zD ?_ _ | refine zG ?_ | refine zE ?_ _)); refine zV ?_ NB1741_1746.out _; (with_reducible repeat (first | refine zD ?_ _ | refine zG ?_ | refine zE ?_ _)); refine zV ?_ NB1741_1746.out _; (with_reducible repeat (first | refine zD ?_ _ | refine zG ?_ | refine zE ?_ _)); exact BK1741.out⟩, ⟨by (with_reducible repeat (first | refine zD ?_ _ | refine zG ?_ | refine zE ?_ _)); refine zS (cs := #[.int .i64 t1742, .int .i64 t1743, .int .i64 0]) ?_ 2 _ rfl; (with_reducible repeat (first | refine zD ?_ _ | refine zG ?_ | refine zE ?_ _)); refine zS (cs := #[.int .i64 t1742, .int .i64 0, .int .i64 0]) ?_ 1 _ rfl; (with_reducible repeat (first | refine zD ?_ _ | refine zG ?_ | refine zE ?_ _)); refine zS (cs := #[.int .i64 0, .int .i64 0, .int .i64 0]) ?_ 0 _ rfl; (with_reducible repeat (first | refine zD ?_ _ | refine zG ?_ | refine zE ?_ _)); exact BK1746.out⟩, ⟨by repeat (first | (with_reducible first | exact HB.out | apply zI | apply zB | apply zF | refine zH ?_ GE1741.out | refine zH ?_ GE1746.out) | exact HB.out)⟩⟩
  case rest =>
   clear HC6
   try clear c1
   try clear p2
   try clear c5
   try clear c5b0
   try clear c5b1
   try clear c10
   try clear c11
   try clear c14
   try clear hcz12_0
   try clear hcz12_1
   try clear hcz12_2
   try clear hcz8_0
   try clear hcz8_1
   try clear hcz8_2
   try clear hcz8_3
   try clear hcz8_4
   try clear hfz12_0
   try clear hfz12_1
   try clear hfz12_2
   try clear hfz8_0
   try clear hfz8_1
   try clear hfz8_2
   try clear hfz8_3
   try clear hfz8_4
   obtain ⟨kq, x26_5, rfl, HA, HJ5, BK1741, BK1746, HB⟩ := hcut
   cases kq with
   | zero => exact absurd HA.out (by simp [impl_panels.j0])
   | succ kj5 =>
    have H := HA.out
    clear HA
    simp only [impl_panels.j0] at H
    by_cases c15 : x26_5 = true
    ·
     subst c15
     have H1 : (some (0, 0, 2)) = some (r1, r2, r3) := by rw [if_pos rfl] at H; exact H
     clear H
     have H := H1
     clear H1
     simp only [Option.some.injEq, Prod.mk.injEq] at H
     obtain ⟨rfl, rfl, rfl⟩ := H
     go_wp2
     go_ret3
     exact ⟨by first | rfl | (simp [errW_none, errW_some] <;> rfl) | (simp [*, errW_none, errW_some] <;> rfl), by repeat (first | (with_reducible first | exact HB.out | apply zI | apply zB | apply zF | refine zH ?_ GE1741.out | refine zH ?_ GE1746.out) | exact HB.out)⟩
    ·
     replace c15 := Bool.eq_false_iff.mpr c15
     subst c15
     have H1 : ((impl_Lattice_drop.f kj5 t1742 t1743 t1744 a1).bind fun t1748 => (if t1748 < 0 then (some (0, 0, 4)) else ((impl_Lattice_repeat.f kj5 t1742 t1743 t1744).bind fun t1749 => (some (t1749, t1748, 0))))) = some (r1, r2, r3) := by rw [if_neg (show ¬ (false = true) by decide)] at H; exact H
     clear H
     have H := H1
     clear H1
     replace H := Option.bind_eq_some_iff.mp H
     obtain ⟨t1748, A160, H⟩ := H
     replace H : (if t1748 < 0 then (some (0, 0, 4)) else ((impl_Lattice_repeat.f kj5 t1742 t1743 t1744).bind fun t1749 => (some (t1749, t1748, 0)))) = some (r1, r2, r3) := H
     have A16 := zC.mk A160
     clear A160
     by_cases c17 : t1748 < 0
     ·
      rw [if_pos c17] at H
      have c17b0 : decide (t1748 < 0) = true := decide_eq_true c17
      clear c17
      simp only [Option.some.injEq, Prod.mk.injEq] at H
      obtain ⟨rfl, rfl, rfl⟩ := H
      have hnb18 := NB1746_1741.out
      have hnc18 := NB1741_1746.out
      have hcz19_0 : wc.cell? ⟨gb1746, 0, none⟩ = some (.int .i64 t1742) := (zA BK1746.out 0).trans rfl
      have hcz19_1 : wc.cell? ⟨gb1746, 1, none⟩ = some (.int .i64 t1743) := (zA BK1746.out 1).trans rfl
      have hcz19_2 : wc.cell? ⟨gb1746, 2, none⟩ = some (.int .i64 t1744) := (zA BK1746.out 2).trans rfl
      have hfz19_0 := zJ BK1746.out 0
      have hfz19_1 := zJ BK1746.out 1
      have hfz19_2 := zJ BK1746.out 2
      go_wp2_with (first | ((with_reducible refine zR (f := 111) rfl ?_); refine zZ (some 29) rfl rfl Try.func111 (by kernel_rfl) rfl #[.agg #[.int .i64 t1742, .int .i64 t1743, .int .i64 t1744], .int .i64 a1] rfl (by (try simp only [List.map_toArray, List.map_cons, List.map_nil]); first | done | rfl | (simp only [List.length_drop, List.length_take]; rfl)) ?_; (with_reducible refine (impl_Lattice_drop.calls kj5 t1742 t1743 t1744 a1 t1748 _ A16.out).mono ?_); rintro e w20 ⟨rfl, hb⟩; refine ⟨_, rfl, ?_⟩; have n0_ := zC.mk (zK (g := gb1741) (o := .cells #[.int .i64 a0_0, .int .i64 a0_1, .int .i64 a0_2, .int .i64 a0_3, .slice A0_4 l0_4.length c0_4] 30 (0, 0)) (by (with_reducible repeat (first | refine zD ?_ _ | refine zG ?_ | refine zE ?_ _)); exact BK1741.out) hb); have n1_ := zC.mk (zK (g := gb1746) (o := .cells #[.int .i64 t1742, .int .i64 t1743, .int .i64 t1744] 28 (0, 0)) (by (with_reducible repeat (first | refine zD ?_ _ | refine zG ?_ | refine zE ?_ _)); exact BK1746.out) hb); have n2_ := zC.mk (zL (by repeat (first | (with_reducible first | exact HB.out | apply zI | apply zB | apply zF | refine zH ?_ GE1741.out | refine zH ?_ GE1746.out) | exact HB.out)) hb); clear BK1741; clear BK1746; clear HB; have BK1741 := n0_; have BK1746 := n1_; have HB := n2_; clear n0_ n1_ n2_; (try clear hb); (try clear hb2); (try clear hk); (try clear hi)))
      go_ret3
      exact ⟨by first | rfl | (simp [errW_none, errW_some] <;> rfl) | (simp [*, errW_none, errW_some] <;> rfl), by repeat (first | (with_reducible first | exact HB.out | apply zI | apply zB | apply zF | refine zH ?_ GE1741.out | refine zH ?_ GE1746.out) | exact HB.out)⟩
     ·
      rw [if_neg c17] at H
      have c17b0 : decide (t1748 < 0) = false := decide_eq_false c17
      clear c17
      replace H := Option.bind_eq_some_iff.mp H
      obtain ⟨t1749, A210, H⟩ := H
      replace H : (some (t1749, t1748, 0)) = some (r1, r2, r3) := H
      have A21 := zC.mk A210
      clear A210
      simp only [Option.some.injEq, Prod.mk.injEq] at H
      obtain ⟨rfl, rfl, rfl⟩ := H
      have hnb22 := NB1746_1741.out
      have hnc22 := NB1741_1746.out
      have hcz23_0 : wc.cell? ⟨gb1746, 0, none⟩ = some (.int .i64 t1742) := (zA BK1746.out 0).trans rfl
      have hcz23_1 : wc.cell? ⟨gb1746, 1, none⟩ = some (.int .i64 t1743) := (zA BK1746.out 1).trans rfl
      have hcz23_2 : wc.cell? ⟨gb1746, 2, none⟩ = some (.int .i64 t1744) := (zA BK1746.out 2).trans rfl
      have hfz23_0 := zJ BK1746.out 0
      have hfz23_1 := zJ BK1746.out 1
      have hfz23_2 := zJ BK1746.out 2
      go_wp2_with (first | ((with_reducible refine zR (f := 111) rfl ?_); refine zZ (some 29) rfl rfl Try.func111 (by kernel_rfl) rfl #[.agg #[.int .i64 t1742, .int .i64 t1743, .int .i64 t1744], .int .i64 a1] rfl (by (try simp only [List.map_toArray, List.map_cons, List.map_nil]); first | done | rfl | (simp only [List.length_drop, List.length_take]; rfl)) ?_; (with_reducible refine (impl_Lattice_drop.calls kj5 t1742 t1743 t1744 a1 t1748 _ A16.out).mono ?_); rintro e w24 ⟨rfl, hb⟩; refine ⟨_, rfl, ?_⟩; have n0_ := zC.mk (zK (g := gb1741) (o := .cells #[.int .i64 a0_0, .int .i64 a0_1, .int .i64 a0_2, .int .i64 a0_3, .slice A0_4 l0_4.length c0_4] 30 (0, 0)) (by (with_reducible repeat (first | refine zD ?_ _ | refine zG ?_ | refine zE ?_ _)); exact BK1741.out) hb); have n1_ := zC.mk (zK (g := gb1746) (o := .cells #[.int .i64 t1742, .int .i64 t1743, .int .i64 t1744] 28 (0, 0)) (by (with_reducible repeat (first | refine zD ?_ _ | refine zG ?_ | refine zE ?_ _)); exact BK1746.out) hb); have n2_ := zC.mk (zL (by repeat (first | (with_reducible first | exact HB.out | apply zI | apply zB | apply zF | refine zH ?_ GE1741.out | refine zH ?_ GE1746.out) | exact HB.out)) hb); clear BK1741; clear BK1746; clear HB; have BK1741 := n0_; have BK1746 := n1_; have HB := n2_; clear n0_ n1_ n2_; (try clear hb); (try clear hb2); (try clear hk); (try clear hi); have hcz25_0 : w24.cell? ⟨gb1746, 0, none⟩ = some (.int .i64 t1742) := (zA BK1746.out 0).trans rfl; have hcz25_1 : w24.cell? ⟨gb1746, 1, none⟩ = some (.int .i64 t1743) := (zA BK1746.out 1).trans rfl; have hcz25_2 : w24.cell? ⟨gb1746, 2, none⟩ = some (.int .i64 t1744) := (zA BK1746.out 2).trans rfl; have hfz25_0 := zJ BK1746.out 0; have hfz25_1 := zJ BK1746.out 1; have hfz25_2 := zJ BK1746.out 2) | ((with_reducible refine zR (f := 108) rfl ?_); refine zZ (some 33) rfl rfl Try.func108 (by kernel_rfl) rfl #[.agg #[.int .i64 t1742, .int .i64 t1743, .int .i64 t1744]] rfl (by (try simp only [List.map_toArray, List.map_cons, List.map_nil]); first | done | rfl | (simp only [List.length_drop, List.length_take]; rfl)) ?_; (with_reducible refine (impl_Lattice_repeat.calls kj5 t1742 t1743 t1744 t1749 _ A21.out).mono ?_); rintro e w26 ⟨rfl, hb⟩; refine ⟨_, rfl, ?_⟩; have n0_ := zC.mk (zK (g := gb1741) (o := .cells #[.int .i64 a0_0, .int .i64 a0_1, .int .i64 a0_2, .int .i64 a0_3, .slice A0_4 l0_4.length c0_4] 30 (0, 0)) (by (with_reducible repeat (first | refine zD ?_ _ | refine zG ?_ | refine zE ?_ _)); exact BK1741.out) hb); have n1_ := zC.mk (zK (g := gb1746) (o := .cells #[.int .i64 t1742, .int .i64 t1743, .int .i64 t1744] 28 (0, 0)) (by (with_reducible repeat (first | refine zD ?_ _ | refine zG ?_ | refine zE ?_ _)); exact BK1746.out) hb); have n2_ := zC.mk (zL (by repeat (first | (with_reducible first | exact HB.out | apply zI | apply zB | apply zF | refine zH ?_ GE1741.out | refine zH ?_ GE1746.out) | exact HB.out)) hb); clear BK1741; clear BK1746; clear HB; have BK1741 := n0_; have BK1746 := n1_; have HB := n2_; clear n0_ n1_ n2_; (try clear hb); (try clear hb2); (try clear hk); (try clear hi)))
      go_ret3
      exact ⟨by first | rfl | (simp [errW_none, errW_some] <;> rfl) | (simp [*, errW_none, errW_some] <;> rfl), by repeat (first | (with_reducible first | exact HB.out | apply zI | apply zB | apply zF | refine zH ?_ GE1741.out | refine zH ?_ GE1746.out) | exact HB.out)⟩
 ·
  rw [if_neg c5] at H
  have c5b0 : (t1745 == 0) = false := beq_eq_false_iff_ne.mpr c5
  have c5b1 : (t1745 != 0) = true := bne_iff_ne.mpr c5
  simp only [Option.some.injEq, Prod.mk.injEq] at H
  obtain ⟨rfl, rfl, rfl⟩ := H
  go_enter Try.func112, Try.ntmps112
  go_wp2_with (first | ((with_reducible refine zQ (N := 3) rfl ?_); refine zN ?hg (N := 3) ?hd (cs := #[.int .i64 a0_0, .int .i64 a0_1, .int .i64 a0_2, .int .i64 a0_3, .slice A0_4 l0_4.length c0_4]) (t := 30) ?hr ?_; (case hd => rfl); (case hg => rfl); (case hr => first | (go_simp; done) | (go_simp; rfl)); intro gb1741 hg w27 hbox hb; have n0_ := zC.mk (zL (by repeat (first | (with_reducible first | exact HB.out | apply zI | apply zB | apply zF) | exact HB.out)) hb); have n1_ := zC.mk (hbox); have n2_ := zC.mk ((by rw [hg]; exact (zM (by repeat (first | (with_reducible first | exact HB.out | apply zI | apply zB | apply zF) | exact HB.out))) : w.heap.size ≤ gb1741)); have n3_ := n2_; clear HB; have HB := n0_; have BK1741 := n1_; have GW1741 := n2_; have GE1741 := n3_; clear n0_ n1_ n2_ n3_; clear hb hbox hg; have hcz28_0 : w27.cell? ⟨gb1741, 0, none⟩ = some (.int .i64 a0_0) := (zA BK1741.out 0).trans rfl; have hcz28_1 : w27.cell? ⟨gb1741, 1, none⟩ = some (.int .i64 a0_1) := (zA BK1741.out 1).trans rfl; have hcz28_2 : w27.cell? ⟨gb1741, 2, none⟩ = some (.int .i64 a0_2) := (zA BK1741.out 2).trans rfl; have hcz28_3 : w27.cell? ⟨gb1741, 3, none⟩ = some (.int .i64 a0_3) := (zA BK1741.out 3).trans rfl; have hcz28_4 : w27.cell? ⟨gb1741, 4, none⟩ = some (.slice A0_4 l0_4.length c0_4) := (zA BK1741.out 4).trans rfl; have hfz28_0 := zJ BK1741.out 0; have hfz28_1 := zJ BK1741.out 1; have hfz28_2 := zJ BK1741.out 2; have hfz28_3 := zJ BK1741.out 3; have hfz28_4 := zJ BK1741.out 4) | ((with_reducible refine zR (f := 107) rfl ?_); refine zZ (some 14) rfl rfl Try.func107 (by kernel_rfl) rfl #[.agg #[.int .i64 a0_0, .int .i64 a0_1, .int .i64 a0_2, .int .i64 a0_3, .slice A0_4 l0_4.length c0_4]] rfl (by (try simp only [List.map_toArray, List.map_cons, List.map_nil]); first | done | rfl | (simp only [List.length_drop, List.length_take]; rfl)) ?_; (with_reducible refine (impl_rollLattice.calls k a0_0 a0_1 a0_2 a0_3 _ _ l0_4 t1742 t1743 t1744 t1745 _ ?side1 ?side2 A4.out).mono ?_); (case side1 => repeat (first | exact (Kd.C_below HR0_4.out HB.out) | (with_reducible refine Kd.C_alloc ?_ _) | (with_reducible refine Kd.C_drewN ?_ _) | (with_reducible refine Kd.C_drew ?_))); (case side2 => exact HC0_4.out); rintro e w29 ⟨rfl, hb⟩; refine ⟨_, rfl, ?_⟩; have n0_ := zC.mk (zK (g := gb1741) (o := .cells #[.int .i64 a0_0, .int .i64 a0_1, .int .i64 a0_2, .int .i64 a0_3, .slice A0_4 l0_4.length c0_4] 30 (0, 0)) (by (with_reducible repeat (first | refine zD ?_ _ | refine zG ?_ | refine zE ?_ _)); exact BK1741.out) hb); have n1_ := zC.mk (zL (by repeat (first | (with_reducible first | exact HB.out | apply zI | apply zB | apply zF | refine zH ?_ GE1741.out) | exact HB.out)) hb); clear BK1741; clear HB; have BK1741 := n0_; have HB := n1_; clear n0_ n1_; (try clear hb); (try clear hb2); (try clear hk); (try clear hi)) | ((with_reducible refine zQ (N := 9) rfl ?_); refine zN ?hg (N := 9) ?hd (cs := #[.int .i64 0, .int .i64 0, .int .i64 0]) (t := 28) ?hr ?_; (case hd => rfl); (case hg => rfl); (case hr => first | (go_simp; done) | (go_simp; rfl)); intro gb1746 hg w30 hbox hb; have n0_ := zC.mk (zK (g := gb1741) (o := .cells #[.int .i64 a0_0, .int .i64 a0_1, .int .i64 a0_2, .int .i64 a0_3, .slice A0_4 l0_4.length c0_4] 30 (0, 0)) (by (with_reducible repeat (first | refine zD ?_ _ | refine zG ?_ | refine zE ?_ _)); exact BK1741.out) hb); have n1_ := zC.mk (zL (by repeat (first | (with_reducible first | exact HB.out | apply zI | apply zB | apply zF | refine zH ?_ GE1741.out) | exact HB.out)) hb); have n2_ := zC.mk (hbox); have n3_ := zC.mk ((by rw [hg]; exact (zM (by repeat (first | (with_reducible first | exact HB.out | apply zI | apply zB | apply zF | refine zH ?_ GE1741.out) | exact HB.out))) : w.heap.size ≤ gb1746)); have n4_ := n3_; have n5_ := zC.mk ((by rw [hg]; exact Nat.ne_of_lt (zX (by (with_reducible repeat (first | refine zD ?_ _ | refine zG ?_ | refine zE ?_ _)); exact BK1741.out)) : gb1741 ≠ gb1746)); have n6_ := zC.mk n5_.out.symm; clear BK1741; clear HB; have BK1741 := n0_; have HB := n1_; have BK1746 := n2_; have GW1746 := n3_; have GE1746 := n4_; have NB1741_1746 := n5_; have NB1746_1741 := n6_; clear n0_ n1_ n2_ n3_ n4_ n5_ n6_; clear hb hbox hg; have hnb31 := NB1746_1741.out; have hnc31 := NB1741_1746.out; have hcz32_0 : w30.cell? ⟨gb1746, 0, none⟩ = some (.int .i64 0) := (zA BK1746.out 0).trans rfl; have hcz32_1 : w30.cell? ⟨gb1746, 1, none⟩ = some (.int .i64 0) := (zA BK1746.out 1).trans rfl; have hcz32_2 : w30.cell? ⟨gb1746, 2, none⟩ = some (.int .i64 0) := (zA BK1746.out 2).trans rfl; have hfz32_0 := zJ BK1746.out 0; have hfz32_1 := zJ BK1746.out 1; have hfz32_2 := zJ BK1746.out 2))
  go_ret3
  exact ⟨by first | rfl | (simp [errW_none, errW_some] <;> rfl) | (simp [*, errW_none, errW_some] <;> rfl), by repeat (first | (with_reducible first | exact HB.out | apply zI | apply zB | apply zF | refine zH ?_ GE1741.out | refine zH ?_ GE1746.out) | exact HB.out)⟩


/-! ### impl_DropOf: function 53 -/
set_option maxHeartbeats 8000000 in
set_option maxRecDepth 100000 in
theorem impl_DropOf.calls (k : Nat) (a0_0 : Int) (a0_1 : Int) (a0_2 : Int) (a0_3 : Int) (A0_4 : Option Addr) (c0_4 : Nat) (l0_4 : List Int) (a1 : Int) (r1 : Int) (r2 : Int) (w : World) (hr0_4 : Kd.C (Kd.int .i64) w A0_4 l0_4.length l0_4) (hc0_4 : l0_4.length ≤ c0_4) (h : impl_DropOf.f k a0_0 a0_1 a0_2 a0_3 l0_4 a1 = some (r1, r2)) :
  Calls Try.prog 53 #[.agg #[.int .i64 a0_0, .int .i64 a0_1, .int .i64 a0_2, .int .i64 a0_3, .slice A0_4 l0_4.length c0_4], .int .i64 a1] w fun e w' => e = .returned (.tuple #[.int .i64 r1, .int .i64 r2]) ∧ Below w.heap.size w w' := by
 have hu30 := Try.underlying30
 have HR0_4 := zC.mk hr0_4
 have HC0_4 := zC.mk hc0_4
 clear hr0_4 hc0_4
 have HB := zC.mk (Below.refl w.heap.size w)
 have H : ((impl_panels.f k a0_0 a0_1 a0_2 a0_3 l0_4 a1 true).bind fun bt1751 => (some (bt1751.2.1, bt1751.2.2))) = some (r1, r2) := h
 clear h
 replace H := Option.bind_eq_some_iff.mp H
 obtain ⟨⟨t1751, t1752, t1753⟩, A30, H⟩ := H
 replace H : (some (t1752, t1753)) = some (r1, r2) := H
 have A3 := zC.mk A30
 clear A30
 simp only [Option.some.injEq, Prod.mk.injEq] at H
 obtain ⟨rfl, rfl⟩ := H
 go_enter Try.func53, Try.ntmps53
 go_wp2_with (first | ((with_reducible refine zQ (N := 2) rfl ?_); refine zN ?hg (N := 2) ?hd (cs := #[.int .i64 a0_0, .int .i64 a0_1, .int .i64 a0_2, .int .i64 a0_3, .slice A0_4 l0_4.length c0_4]) (t := 30) ?hr ?_; (case hd => rfl); (case hg => rfl); (case hr => first | (go_simp; done) | (go_simp; rfl)); intro gb1750 hg w4 hbox hb; have n0_ := zC.mk (zL (by repeat (first | (with_reducible first | exact HB.out | apply zI | apply zB | apply zF) | exact HB.out)) hb); have n1_ := zC.mk (hbox); have n2_ := zC.mk ((by rw [hg]; exact (zM (by repeat (first | (with_reducible first | exact HB.out | apply zI | apply zB | apply zF) | exact HB.out))) : w.heap.size ≤ gb1750)); have n3_ := n2_; clear HB; have HB := n0_; have BK1750 := n1_; have GW1750 := n2_; have GE1750 := n3_; clear n0_ n1_ n2_ n3_; clear hb hbox hg; have hcz5_0 : w4.cell? ⟨gb1750, 0, none⟩ = some (.int .i64 a0_0) := (zA BK1750.out 0).trans rfl; have hcz5_1 : w4.cell? ⟨gb1750, 1, none⟩ = some (.int .i64 a0_1) := (zA BK1750.out 1).trans rfl; have hcz5_2 : w4.cell? ⟨gb1750, 2, none⟩ = some (.int .i64 a0_2) := (zA BK1750.out 2).trans rfl; have hcz5_3 : w4.cell? ⟨gb1750, 3, none⟩ = some (.int .i64 a0_3) := (zA BK1750.out 3).trans rfl; have hcz5_4 : w4.cell? ⟨gb1750, 4, none⟩ = some (.slice A0_4 l0_4.length c0_4) := (zA BK1750.out 4).trans rfl; have hfz5_0 := zJ BK1750.out 0; have hfz5_1 := zJ BK1750.out 1; have hfz5_2 := zJ BK1750.out 2; have hfz5_3 := zJ BK1750.out 3; have hfz5_4 := zJ BK1750.out 4) | ((with_reducible refine zR (f := 112) rfl ?_); refine zZ (some 12) rfl rfl Try.func112 (by kernel_rfl) rfl #[.agg #[.int .i64 a0_0, .int .i64 a0_1, .int .i64 a0_2, .int .i64 a0_3, .slice A0_4 l0_4.length c0_4], .int .i64 a1, .bool true] rfl (by (try simp only [List.map_toArray, List.map_cons, List.map_nil]); first | done | rfl | (simp only [List.length_drop, List.length_take]; rfl)) ?_; (with_reducible refine (impl_panels.calls k a0_0 a0_1 a0_2 a0_3 _ _ l0_4 a1 true t1751 t1752 t1753 _ ?side1 ?side2 A3.out).mono ?_); (case side1 => repeat (first | exact (Kd.C_below HR0_4.out HB.out) | (with_reducible refine Kd.C_alloc ?_ _) | (with_reducible refine Kd.C_drewN ?_ _) | (with_reducible refine Kd.C_drew ?_))); (case side2 => exact HC0_4.out); rintro e w6 ⟨rfl, hb⟩; refine ⟨_, rfl, ?_⟩; have n0_ := zC.mk (zK (g := gb1750) (o := .cells #[.int .i64 a0_0, .int .i64 a0_1, .int .i64 a0_2, .int .i64 a0_3, .slice A0_4 l0_4.length c0_4] 30 (0, 0)) (by (with_reducible repeat (first | refine zD ?_ _ | refine zG ?_ | refine zE ?_ _)); exact BK1750.out) hb); have n1_ := zC.mk (zL (by repeat (first | (with_reducible first | exact HB.out | apply zI | apply zB | apply zF | refine zH ?_ GE1750.out) | exact HB.out)) hb); clear BK1750; clear HB; have BK1750 := n0_; have HB := n1_; clear n0_ n1_; (try clear hb); (try clear hb2); (try clear hk); (try clear hi)))
 go_ret2
 exact ⟨by first | rfl | (simp [errW_none, errW_some] <;> rfl) | (simp [*, errW_none, errW_some] <;> rfl), by repeat (first | (with_reducible first | exact HB.out | apply zI | apply zB | apply zF | refine zH ?_ GE1750.out) | exact HB.out)⟩


/-! ### laws_FnExactDropOf: function 12 -/
set_option maxHeartbeats 8000000 in
set_option maxRecDepth 100000 in
theorem laws_FnExactDropOf.calls (k : Nat) (a0_0 : Int) (a0_1 : Int) (a0_2 : Int) (a0_3 : Int) (A0_4 : Option Addr) (c0_4 : Nat) (l0_4 : List Int) (a1 : Int) (r : Bool) (w : World) (hr0_4 : Kd.C (Kd.int .i64) w A0_4 l0_4.length l0_4) (hc0_4 : l0_4.length ≤ c0_4) (h : laws_FnExactDropOf.f k a0_0 a0_1 a0_2 a0_3 l0_4 a1 = some r) :
  Calls Try.prog 12 #[.agg #[.int .i64 a0_0, .int .i64 a0_1, .int .i64 a0_2, .int .i64 a0_3, .slice A0_4 l0_4.length c0_4], .int .i64 a1] w fun e w' => e = .returned (.bool r) ∧ Below w.heap.size w w' := by
 have hu26 := Try.underlying26
 have hu30 := Try.underlying30
 have HR0_4 := zC.mk hr0_4
 have HC0_4 := zC.mk hc0_4
 clear hr0_4 hc0_4
 have HB := zC.mk (Below.refl w.heap.size w)
 have H : ((laws_szPattern.f a0_0 a0_1 a0_2 a0_3 l0_4 1048576).bind fun t1755 => (if t1755 < 0 then (some true) else ((laws_toPattern.f k a0_0 a0_1 a0_2 a0_3 l0_4).bind fun bt1756 => ((spec_DropOf.f k bt1756.1 bt1756.2.1 bt1756.2.2.1 bt1756.2.2.2.1 bt1756.2.2.2.2 a1).bind fun bt1763 => ((laws_toPattern.f k a0_0 a0_1 a0_2 a0_3 l0_4).bind fun bt1765 => ((impl_DropOf.f k bt1765.1 bt1765.2.1 bt1765.2.2.1 bt1765.2.2.2.1 bt1765.2.2.2.2 a1).bind fun bt1773 => (if bt1773.1 = bt1763.1 then (if bt1773.2 = bt1763.2 then ((laws_toPattern.f k a0_0 a0_1 a0_2 a0_3 l0_4).bind fun bt1775 => ((laws_eqPattern.f k bt1765.1 bt1765.2.1 bt1765.2.2.1 bt1765.2.2.2.1 bt1765.2.2.2.2 bt1775.1 bt1775.2.1 bt1775.2.2.1 bt1775.2.2.2.1 bt1775.2.2.2.2).bind fun t1782 => (if t1782 = true then (some true) else (none)))) else (none)) else (none)))))))) = some r := h
 clear h
 replace H := Option.bind_eq_some_iff.mp H
 obtain ⟨t1755, A30, H⟩ := H
 replace H : (if t1755 < 0 then (some true) else ((laws_toPattern.f k a0_0 a0_1 a0_2 a0_3 l0_4).bind fun bt1756 => ((spec_DropOf.f k bt1756.1 bt1756.2.1 bt1756.2.2.1 bt1756.2.2.2.1 bt1756.2.2.2.2 a1).bind fun bt1763 => ((laws_toPattern.f k a0_0 a0_1 a0_2 a0_3 l0_4).bind fun bt1765 => ((impl_DropOf.f k bt1765.1 bt1765.2.1 bt1765.2.2.1 bt1765.2.2.2.1 bt1765.2.2.2.2 a1).bind fun bt1773 => (if bt1773.1 = bt1763.1 then (if bt1773.2 = bt1763.2 then ((laws_toPattern.f k a0_0 a0_1 a0_2 a0_3 l0_4).bind fun bt1775 => ((laws_eqPattern.f k bt1765.1 bt1765.2.1 bt1765.2.2.1 bt1765.2.2.2.1 bt1765.2.2.2.2 bt1775.1 bt1775.2.1 bt1775.2.2.1 bt1775.2.2.2.1 bt1775.2.2.2.2).bind fun t1782 => (if t1782 = true then (some true) else (none)))) else (none)) else (none))))))) = some r := H
 have A3 := zC.mk A30
 clear A30
 by_cases c4 : t1755 < 0
 ·
  rw [if_pos c4] at H
  have c4b0 : decide (t1755 < 0) = true := decide_eq_true c4
  clear c4
  obtain rfl := Option.some.inj H
  go_enter Try.func12, Try.ntmps12
  go_wp2_with (first | ((with_reducible refine zQ (N := 2) rfl ?_); refine zN ?hg (N := 2) ?hd (cs := #[.int .i64 a0_0, .int .i64 a0_1, .int .i64 a0_2, .int .i64 a0_3, .slice A0_4 l0_4.length c0_4]) (t := 26) ?hr ?_; (case hd => rfl); (case hg => rfl); (case hr => first | (go_simp; done) | (go_simp; rfl)); intro gb1754 hg w5 hbox hb; have n0_ := zC.mk (zL (by repeat (first | (with_reducible first | exact HB.out | apply zI | apply zB | apply zF) | exact HB.out)) hb); have n1_ := zC.mk (hbox); have n2_ := zC.mk ((by rw [hg]; exact (zM (by repeat (first | (with_reducible first | exact HB.out | apply zI | apply zB | apply zF) | exact HB.out))) : w.heap.size ≤ gb1754)); have n3_ := n2_; clear HB; have HB := n0_; have BK1754 := n1_; have GW1754 := n2_; have GE1754 := n3_; clear n0_ n1_ n2_ n3_; clear hb hbox hg; have hcz6_0 : w5.cell? ⟨gb1754, 0, none⟩ = some (.int .i64 a0_0) := (zA BK1754.out 0).trans rfl; have hcz6_1 : w5.cell? ⟨gb1754, 1, none⟩ = some (.int .i64 a0_1) := (zA BK1754.out 1).trans rfl; have hcz6_2 : w5.cell? ⟨gb1754, 2, none⟩ = some (.int .i64 a0_2) := (zA BK1754.out 2).trans rfl; have hcz6_3 : w5.cell? ⟨gb1754, 3, none⟩ = some (.int .i64 a0_3) := (zA BK1754.out 3).trans rfl; have hcz6_4 : w5.cell? ⟨gb1754, 4, none⟩ = some (.slice A0_4 l0_4.length c0_4) := (zA BK1754.out 4).trans rfl; have hfz6_0 := zJ BK1754.out 0; have hfz6_1 := zJ BK1754.out 1; have hfz6_2 := zJ BK1754.out 2; have hfz6_3 := zJ BK1754.out 3; have hfz6_4 := zJ BK1754.out 4) | ((with_reducible refine zR (f := 14) rfl ?_); refine zZ (some 13) rfl rfl Try.func14 (by kernel_rfl) rfl #[.agg #[.int .i64 a0_0, .int .i64 a0_1, .int .i64 a0_2, .int .i64 a0_3, .slice A0_4 l0_4.length c0_4], .int .i64 1048576] rfl (by (try simp only [List.map_toArray, List.map_cons, List.map_nil]); first | done | rfl | (simp only [List.length_drop, List.length_take]; rfl)) ?_; (with_reducible refine (laws_szPattern.calls a0_0 a0_1 a0_2 a0_3 _ _ l0_4 1048576 t1755 _ ?side1 ?side2 A3.out).mono ?_); (case side1 => repeat (first | exact (Kd.C_below HR0_4.out HB.out) | (with_reducible refine Kd.C_alloc ?_ _) | (with_reducible refine Kd.C_drewN ?_ _) | (with_reducible refine Kd.C_drew ?_))); (case side2 => exact HC0_4.out); rintro e w7 ⟨rfl, hb⟩; refine ⟨_, rfl, ?_⟩; have n0_ := zC.mk (zK (g := gb1754) (o := .cells #[.int .i64 a0_0, .int .i64 a0_1, .int .i64 a0_2, .int .i64 a0_3, .slice A0_4 l0_4.length c0_4] 26 (0, 0)) (by (with_reducible repeat (first | refine zD ?_ _ | refine zG ?_ | refine zE ?_ _)); exact BK1754.out) hb); have n1_ := zC.mk (zL (by repeat (first | (with_reducible first | exact HB.out | apply zI | apply zB | apply zF | refine zH ?_ GE1754.out) | exact HB.out)) hb); clear BK1754; clear HB; have BK1754 := n0_; have HB := n1_; clear n0_ n1_; (try clear hb); (try clear hb2); (try clear hk); (try clear hi)))
  go_ret
  exact ⟨by first | rfl | (simp [errW_none, errW_some] <;> rfl) | (simp [*, errW_none, errW_some] <;> rfl), by repeat (first | (with_reducible first | exact HB.out | apply zI | apply zB | apply zF | refine zH ?_ GE1754.out) | exact HB.out)⟩
 ·
  rw [if_neg c4] at H
  have c4b0 : decide (t1755 < 0) = false := decide_eq_false c4
  clear c4
  replace H := Option.bind_eq_some_iff.mp H
  obtain ⟨⟨t1756, t1757, t1758, t1759, t1760⟩, A80, H⟩ := H
  replace H : ((spec_DropOf.f k t1756 t1757 t1758 t1759 t1760 a1).bind fun bt1763 => ((laws_toPattern.f k a0_0 a0_1 a0_2 a0_3 l0_4).bind fun bt1765 => ((impl_DropOf.f k bt1765.1 bt1765.2.1 bt1765.2.2.1 bt1765.2.2.2.1 bt1765.2.2.2.2 a1).bind fun bt1773 => (if bt1773.1 = bt1763.1 then (if bt1773.2 = bt1763.2 then ((laws_toPattern.f k a0_0 a0_1 a0_2 a0_3 l0_4).bind fun bt1775 => ((laws_eqPattern.f k bt1765.1 bt1765.2.1 bt1765.2.2.1 bt1765.2.2.2.1 bt1765.2.2.2.2 bt1775.1 bt1775.2.1 bt1775.2.2.1 bt1775.2.2.2.1 bt1775.2.2.2.2).bind fun t1782 => (if t1782 = true then (some true) else (none)))) else (none)) else (none))))) = some r := H
  have A8 := zC.mk A80
  clear A80
  replace H := Option.bind_eq_some_iff.mp H
  obtain ⟨⟨t1763, t1764⟩, A90, H⟩ := H
  replace H : ((laws_toPattern.f k a0_0 a0_1 a0_2 a0_3 l0_4).bind fun bt1765 => ((impl_DropOf.f k bt1765.1 bt1765.2.1 bt1765.2.2.1 bt1765.2.2.2.1 bt1765.2.2.2.2 a1).bind fun bt1773 => (if bt1773.1 = t1763 then (if bt1773.2 = t1764 then ((laws_toPattern.f k a0_0 a0_1 a0_2 a0_3 l0_4).bind fun bt1775 => ((laws_eqPattern.f k bt1765.1 bt1765.2.1 bt1765.2.2.1 bt1765.2.2.2.1 bt1765.2.2.2.2 bt1775.1 bt1775.2.1 bt1775.2.2.1 bt1775.2.2.2.1 bt1775.2.2.2.2).bind fun t1782 => (if t1782 = true then (some true) else (none)))) else (none)) else (none)))) = some r := H
  have A9 := zC.mk A90
  clear A90
  replace H := Option.bind_eq_some_iff.mp H
  obtain ⟨⟨t1765, t1766, t1767, t1768, t1769⟩, A100, H⟩ := H
  replace H : ((impl_DropOf.f k t1765 t1766 t1767 t1768 t1769 a1).bind fun bt1773 => (if bt1773.1 = t1763 then (if bt1773.2 = t1764 then ((laws_toPattern.f k a0_0 a0_1 a0_2 a0_3 l0_4).bind fun bt1775 => ((laws_eqPattern.f k t1765 t1766 t1767 t1768 t1769 bt1775.1 bt1775.2.1 bt1775.2.2.1 bt1775.2.2.2.1 bt1775.2.2.2.2).bind fun t1782 => (if t1782 = true then (some true) else (none)))) else (none)) else (none))) = some r := H
  have A10 := zC.mk A100
  clear A100
  replace H := Option.bind_eq_some_iff.mp H
  obtain ⟨⟨t1773, t1774⟩, A110, H⟩ := H
  replace H : (if t1773 = t1763 then (if t1774 = t1764 then ((laws_toPattern.f k a0_0 a0_1 a0_2 a0_3 l0_4).bind fun bt1775 => ((laws_eqPattern.f k t1765 t1766 t1767 t1768 t1769 bt1775.1 bt1775.2.1 bt1775.2.2.1 bt1775.2.2.2.1 bt1775.2.2.2.2).bind fun t1782 => (if t1782 = true then (some true) else (none)))) else (none)) else (none)) = some r := H
  have A11 := zC.mk A110
  clear A110
  by_cases c12 : t1773 = t1763
  ·
   rw [if_pos c12] at H
   have c12b0 : (t1773 == t1763) = true := beq_iff_eq.mpr c12
   have c12b1 : (t1773 != t1763) = false := bne_eq_false_iff_eq.mpr c12
   clear c12
   by_cases c13 : t1774 = t1764
   ·
    rw [if_pos c13] at H
    have c13b0 : (t1774 == t1764) = true := beq_iff_eq.mpr c13
    have c13b1 : (t1774 != t1764) = false := bne_eq_false_iff_eq.mpr c13
    clear c13
    replace H := Option.bind_eq_some_iff.mp H
    obtain ⟨⟨t1775, t1776, t1777, t1778, t1779⟩, A140, H⟩ := H
    replace H : ((laws_eqPattern.f k t1765 t1766 t1767 t1768 t1769 t1775 t1776 t1777 t1778 t1779).bind fun t1782 => (if t1782 = true then (some true) else (none))) = some r := H
    have A14 := zC.mk A140
    clear A140
    replace H := Option.bind_eq_some_iff.mp H
    obtain ⟨t1782, A150, H⟩ := H
    replace H : (if t1782 = true then (some true) else (none)) = some r := H
    have A15 := zC.mk A150
    clear A150
    by_cases c16 : t1782 = true
    ·
     subst c16
     have H1 : (some true) = some r := by rw [if_pos rfl] at H; exact H
     clear H
     have H := H1
     clear H1
     obtain rfl := Option.some.inj H
     go_enter Try.func12, Try.ntmps12
     try go_wp2_with (first | ((with_reducible refine zQ (N := 2) rfl ?_); refine zN ?hg (N := 2) ?hd (cs := #[.int .i64 a0_0, .int .i64 a0_1, .int .i64 a0_2, .int .i64 a0_3, .slice A0_4 l0_4.length c0_4]) (t := 26) ?hr ?_; (case hd => rfl); (case hg => rfl); (case hr => first | (go_simp; done) | (go_simp; rfl)); intro gb1754 hg w17 hbox hb; have n0_ := zC.mk (zL (by repeat (first | (with_reducible first | exact HB.out | apply zI | apply zB | apply zF) | exact HB.out)) hb); have n1_ := zC.mk (hbox); have n2_ := zC.mk ((by rw [hg]; exact (zM (by repeat (first | (with_reducible first | exact HB.out | apply zI | apply zB | apply zF) | exact HB.out))) : w.heap.size ≤ gb1754)); have n3_ := n2_; clear HB; have HB := n0_; have BK1754 := n1_; have GW1754 := n2_; have GE1754 := n3_; clear n0_ n1_ n2_ n3_; clear hb hbox hg; have hcz18_0 : w17.cell? ⟨gb1754, 0, none⟩ = some (.int .i64 a0_0) := (zA BK1754.out 0).trans rfl; have hcz18_1 : w17.cell? ⟨gb1754, 1, none⟩ = some (.int .i64 a0_1) := (zA BK1754.out 1).trans rfl; have hcz18_2 : w17.cell? ⟨gb1754, 2, none⟩ = some (.int .i64 a0_2) := (zA BK1754.out 2).trans rfl; have hcz18_3 : w17.cell? ⟨gb1754, 3, none⟩ = some (.int .i64 a0_3) := (zA BK1754.out 3).trans rfl; have hcz18_4 : w17.cell? ⟨gb1754, 4, none⟩ = some (.slice A0_4 l0_4.length c0_4) := (zA BK1754.out 4).trans rfl; have hfz18_0 := zJ BK1754.out 0; have hfz18_1 := zJ BK1754.out 1; have hfz18_2 := zJ BK1754.out 2; have hfz18_3 := zJ BK1754.out 3; have hfz18_4 := zJ BK1754.out 4) | ((with_reducible refine zR (f := 14) rfl ?_); refine zZ (some 13) rfl rfl Try.func14 (by kernel_rfl) rfl #[.agg #[.int .i64 a0_0, .int .i64 a0_1, .int .i64 a0_2, .int .i64 a0_3, .slice A0_4 l0_4.length c0_4], .int .i64 1048576] rfl (by (try simp only [List.map_toArray, List.map_cons, List.map_nil]); first | done | rfl | (simp only [List.length_drop, List.length_take]; rfl)) ?_; (with_reducible refine (laws_szPattern.calls a0_0 a0_1 a0_2 a0_3 _ _ l0_4 1048576 t1755 _ ?side1 ?side2 A3.out).mono ?_); (case side1 => repeat (first | exact (Kd.C_below HR0_4.out HB.out) | (with_reducible refine Kd.C_alloc ?_ _) | (with_reducible refine Kd.C_drewN ?_ _) | (with_reducible refine Kd.C_drew ?_))); (case side2 => exact HC0_4.out); rintro e w19 ⟨rfl, hb⟩; refine ⟨_, rfl, ?_⟩; have n0_ := zC.mk (zK (g := gb1754) (o := .cells #[.int .i64 a0_0, .int .i64 a0_1, .int .i64 a0_2, .int .i64 a0_3, .slice A0_4 l0_4.length c0_4] 26 (0, 0)) (by (with_reducible repeat (first | refine zD ?_ _ | refine zG ?_ | refine zE ?_ _)); exact BK1754.out) hb); have n1_ := zC.mk (zL (by repeat (first | (with_reducible first | exact HB.out | apply zI | apply zB | apply zF | refine zH ?_ GE1754.out) | exact HB.out)) hb); clear BK1754; clear HB; have BK1754 := n0_; have HB := n1_; clear n0_ n1_; (try clear hb); (try clear hb2); (try clear hk); (try clear hi); have hcz20_0 : w19.cell? ⟨gb1754, 0, none⟩ = some (.int .i64 a0_0) := (zA BK1754.out 0).trans rfl; have hcz20_1 : w19.cell? ⟨gb1754, 1, none⟩ = some (.int .i64 a0_1) := (zA BK1754.out 1).trans rfl; have hcz20_2 : w19.cell? ⟨gb1754, 2, none⟩ = some (.int .i64 a0_2) := (zA BK1754.out 2).trans rfl; have hcz20_3 : w19.cell? ⟨gb1754, 3, none⟩ = some (.int .i64 a0_3) := (zA BK1754.out 3).trans rfl; have hcz20_4 : w19.cell? ⟨gb1754, 4, none⟩ = some (.slice A0_4 l0_4.length c0_4) := (zA BK1754.out 4).trans rfl; have hfz20_0 := zJ BK1754.out 0; have hfz20_1 := zJ BK1754.out 1; have hfz20_2 := zJ BK1754.out 2; have hfz20_3 := zJ BK1754.out 3; have hfz20_4 := zJ BK1754.out 4) | ((with_reducible refine zR (f := 16) rfl ?_); refine zZ (some 18) rfl rfl Try.func16 (by kernel_rfl) rfl #[.agg #[.int .i64 a0_0, .int .i64 a0_1, .int .i64 a0_2, .int .i64 a0_3, .slice A0_4 l0_4.length c0_4]] rfl (by (try simp only [List.map_toArray, List.map_cons, List.map_nil]); first | done | rfl | (simp only [List.length_drop, List.length_take]; rfl)) ?_; (with_reducible refine (laws_toPattern.calls k a0_0 a0_1 a0_2 a0_3 _ _ l0_4 t1756 t1757 t1758 t1759 t1760 _ ?side1 ?side2 A8.out).mono ?_); (case side1 => repeat (first | exact (Kd.C_below HR0_4.out HB.out) | (with_reducible refine Kd.C_alloc ?_ _) | (with_reducible refine Kd.C_drewN ?_ _) | (with_reducible refine Kd.C_drew ?_))); (case side2 => exact HC0_4.out); rintro e w21 ⟨v1761, rfl, ho0, hb⟩; refine ⟨_, rfl, ?_⟩; have n0_ := zC.mk (Kd.R_lower ho0 (zM (by repeat (first | (with_reducible first | exact HB.out | apply zI | apply zB | apply zF | refine zH ?_ GE1754.out) | exact HB.out)))); have n1_ := zC.mk (zK (g := gb1754) (o := .cells #[.int .i64 a0_0, .int .i64 a0_1, .int .i64 a0_2, .int .i64 a0_3, .slice A0_4 l0_4.length c0_4] 26 (0, 0)) (by (with_reducible repeat (first | refine zD ?_ _ | refine zG ?_ | refine zE ?_ _)); exact BK1754.out) hb); have n2_ := zC.mk (zL (by repeat (first | (with_reducible first | exact HB.out | apply zI | apply zB | apply zF | refine zH ?_ GE1754.out) | exact HB.out)) hb); clear BK1754; clear HB; have HO1762 := n0_; have BK1754 := n1_; have HB := n2_; clear n0_ n1_ n2_; (try clear hb); (try clear hb2); (try clear hk); (try clear hi); (try clear ho0); obtain ⟨Ao22, co22, eo22⟩ := Kd.R_slice HO1762.out; subst eo22) | ((with_reducible refine zR (f := 52) rfl ?_); refine zZ (some 20) rfl rfl Try.func52 (by kernel_rfl) rfl #[.agg #[.int .i64 t1756, .int .i64 t1757, .int .i64 t1758, .int .i64 t1759, .slice Ao22 t1760.length co22], .int .i64 a1] rfl (by (try simp only [List.map_toArray, List.map_cons, List.map_nil]); first | done | rfl | (simp only [List.length_drop, List.length_take]; rfl)) ?_; (with_reducible refine (spec_DropOf.calls k t1756 t1757 t1758 t1759 _ _ t1760 a1 t1763 t1764 _ ?side1 ?side2 A9.out).mono ?_); (case side1 => repeat (first | exact (Kd.R_reads' HO1762.out).2.2 | (with_reducible refine Kd.C_alloc ?_ _) | (with_reducible refine Kd.C_drewN ?_ _) | (with_reducible refine Kd.C_drew ?_))); (case side2 => exact (Kd.R_reads' HO1762.out).2.1); rintro e w23 ⟨rfl, hb⟩; refine ⟨_, rfl, ?_⟩; have n0_ := zC.mk (Kd.R_below (by (with_reducible repeat (first | apply Kd.R_alloc | apply Kd.R_drewN | apply Kd.R_drew)); exact HO1762.out) hb); have n1_ := zC.mk (zK (g := gb1754) (o := .cells #[.int .i64 a0_0, .int .i64 a0_1, .int .i64 a0_2, .int .i64 a0_3, .slice A0_4 l0_4.length c0_4] 26 (0, 0)) (by (with_reducible repeat (first | refine zD ?_ _ | refine zG ?_ | refine zE ?_ _)); exact BK1754.out) hb); have n2_ := zC.mk (zL (by repeat (first | (with_reducible first | exact HB.out | apply zI | apply zB | apply zF | refine zH ?_ GE1754.out) | exact HB.out)) hb); clear HO1762; clear BK1754; clear HB; have HO1762 := n0_; have BK1754 := n1_; have HB := n2_; clear n0_ n1_ n2_; (try clear hb); (try clear hb2); (try clear hk); (try clear hi); have hcz24_0 : w23.cell? ⟨gb1754, 0, none⟩ = some (.int .i64 a0_0) := (zA BK1754.out 0).trans rfl; have hcz24_1 : w23.cell? ⟨gb1754, 1, none⟩ = some (.int .i64 a0_1) := (zA BK1754.out 1).trans rfl; have hcz24_2 : w23.cell? ⟨gb1754, 2, none⟩ = some (.int .i64 a0_2) := (zA BK1754.out 2).trans rfl; have hcz24_3 : w23.cell? ⟨gb1754, 3, none⟩ = some (.int .i64 a0_3) := (zA BK1754.out 3).trans rfl; have hcz24_4 : w23.cell? ⟨gb1754, 4, none⟩ = some (.slice A0_4 l0_4.length c0_4) := (zA BK1754.out 4).trans rfl; have hfz24_0 := zJ BK1754.out 0; have hfz24_1 := zJ BK1754.out 1; have hfz24_2 := zJ BK1754.out 2; have hfz24_3 := zJ BK1754.out 3; have hfz24_4 := zJ BK1754.out 4) | ((with_reducible refine zR (f := 16) rfl ?_); refine zZ (some 24) rfl rfl Try.func16 (by kernel_rfl) rfl #[.agg #[.int .i64 a0_0, .int .i64 a0_1, .int .i64 a0_2, .int .i64 a0_3, .slice A0_4 l0_4.length c0_4]] rfl (by (try simp only [List.map_toArray, List.map_cons, List.map_nil]); first | done | rfl | (simp only [List.length_drop, List.length_take]; rfl)) ?_; (with_reducible refine (laws_toPattern.calls k a0_0 a0_1 a0_2 a0_3 _ _ l0_4 t1765 t1766 t1767 t1768 t1769 _ ?side1 ?side2 A10.out).mono ?_); (case side1 => repeat (first | exact (Kd.C_below HR0_4.out HB.out) | (with_reducible refine Kd.C_alloc ?_ _) | (with_reducible refine Kd.C_drewN ?_ _) | (with_reducible refine Kd.C_drew ?_))); (case side2 => exact HC0_4.out); rintro e w25 ⟨v1770, rfl, ho0, hb⟩; refine ⟨_, rfl, ?_⟩; have n0_ := zC.mk (Kd.R_elder' (by (with_reducible repeat (first | apply Kd.R_alloc | apply Kd.R_drewN | apply Kd.R_drew)); exact HO1762.out) (Kd.R_base ho0) hb); have n1_ := zC.mk (Kd.R_lower (Kd.R_new' ho0 (Kd.R_lt (by (with_reducible repeat (first | apply Kd.R_alloc | apply Kd.R_drewN | apply Kd.R_drew)); exact HO1762.out))) (zM (by repeat (first | (with_reducible first | exact HB.out | apply zI | apply zB | apply zF | refine zH ?_ GE1754.out) | exact HB.out)))); have n2_ := zC.mk (zK (g := gb1754) (o := .cells #[.int .i64 a0_0, .int .i64 a0_1, .int .i64 a0_2, .int .i64 a0_3, .slice A0_4 l0_4.length c0_4] 26 (0, 0)) (by (with_reducible repeat (first | refine zD ?_ _ | refine zG ?_ | refine zE ?_ _)); exact BK1754.out) hb); have n3_ := zC.mk (zL (by repeat (first | (with_reducible first | exact HB.out | apply zI | apply zB | apply zF | refine zH ?_ GE1754.out) | exact HB.out)) hb); clear HO1762; clear BK1754; clear HB; have HO1762 := n0_; have HO1771 := n1_; have BK1754 := n2_; have HB := n3_; clear n0_ n1_ n2_ n3_; (try clear hb); (try clear hb2); (try clear hk); (try clear hi); (try clear ho0)) | ((with_reducible refine zQ (N := 8) rfl ?_); refine zN ?hg (N := 8) ?hd (cs := #[.int .i64 0, .int .i64 0, .int .i64 0, .int .i64 0, .slice none 0 0]) (t := 30) ?hr ?_; (case hd => rfl); (case hg => rfl); (case hr => first | (go_simp; done) | (go_simp; rfl)); intro gb1772 hg w26 hbox hb; have n0_ := zC.mk (Kd.R_below (by (with_reducible repeat (first | apply Kd.R_alloc | apply Kd.R_drewN | apply Kd.R_drew)); exact HO1762.out) hb); have n1_ := zC.mk (Kd.R_below (by (with_reducible repeat (first | apply Kd.R_alloc | apply Kd.R_drewN | apply Kd.R_drew)); exact HO1771.out) hb); have n2_ := zC.mk (zK (g := gb1754) (o := .cells #[.int .i64 a0_0, .int .i64 a0_1, .int .i64 a0_2, .int .i64 a0_3, .slice A0_4 l0_4.length c0_4] 26 (0, 0)) (by (with_reducible repeat (first | refine zD ?_ _ | refine zG ?_ | refine zE ?_ _)); exact BK1754.out) hb); have n3_ := zC.mk (zL (by repeat (first | (with_reducible first | exact HB.out | apply zI | apply zB | apply zF | refine zH ?_ GE1754.out) | exact HB.out)) hb); have n4_ := zC.mk (hbox); have n5_ := zC.mk ((by rw [hg]; exact (zM (by repeat (first | (with_reducible first | exact HB.out | apply zI | apply zB | apply zF | refine zH ?_ GE1754.out) | exact HB.out))) : w.heap.size ≤ gb1772)); have n6_ := n5_; have n7_ := zC.mk ((by rw [hg]; exact Nat.ne_of_lt (zX (by (with_reducible repeat (first | refine zD ?_ _ | refine zG ?_ | refine zE ?_ _)); exact BK1754.out)) : gb1754 ≠ gb1772)); have n8_ := zC.mk n7_.out.symm; clear HO1762; clear HO1771; clear BK1754; clear HB; have HO1762 := n0_; have HO1771 := n1_; have BK1754 := n2_; have HB := n3_; have BK1772 := n4_; have GW1772 := n5_; have GE1772 := n6_; have NB1754_1772 := n7_; have NB1772_1754 := n8_; clear n0_ n1_ n2_ n3_ n4_ n5_ n6_ n7_ n8_; clear hb hbox hg; have hnb27 := NB1772_1754.out; have hnc27 := NB1754_1772.out; have hcz28_0 : w26.cell? ⟨gb1772, 0, none⟩ = some (.int .i64 0) := (zA BK1772.out 0).trans rfl; have hcz28_1 : w26.cell? ⟨gb1772, 1, none⟩ = some (.int .i64 0) := (zA BK1772.out 1).trans rfl; have hcz28_2 : w26.cell? ⟨gb1772, 2, none⟩ = some (.int .i64 0) := (zA BK1772.out 2).trans rfl; have hcz28_3 : w26.cell? ⟨gb1772, 3, none⟩ = some (.int .i64 0) := (zA BK1772.out 3).trans rfl; have hcz28_4 : w26.cell? ⟨gb1772, 4, none⟩ = some (.slice none 0 0) := (zA BK1772.out 4).trans rfl; have hfz28_0 := zJ BK1772.out 0; have hfz28_1 := zJ BK1772.out 1; have hfz28_2 := zJ BK1772.out 2; have hfz28_3 := zJ BK1772.out 3; have hfz28_4 := zJ BK1772.out 4; obtain ⟨Ao29, co29, eo29⟩ := Kd.R_slice HO1771.out; subst eo29) | ((with_reducible refine zR (f := 53) rfl ?_); refine zZ (some 28) rfl rfl Try.func53 (by kernel_rfl) rfl #[.agg #[.int .i64 t1765, .int .i64 t1766, .int .i64 t1767, .int .i64 t1768, .slice Ao29 t1769.length co29], .int .i64 a1] rfl (by (try simp only [List.map_toArray, List.map_cons, List.map_nil]); first | done | rfl | (simp only [List.length_drop, List.length_take]; rfl)) ?_; (with_reducible refine (impl_DropOf.calls k t1765 t1766 t1767 t1768 _ _ t1769 a1 t1773 t1774 _ ?side1 ?side2 A11.out).mono ?_); (case side1 => refine (Kd.R_reads' (e := 2) (base := w.heap.size) (ok := fun k_ => (True ∧ some k_ ≠ (.slice Ao22 t1760.length co22 : Value).ownBlock)) (n := t1769.length) (c := co29) ?_).2.2; exact (by (with_reducible repeat (first | apply Kd.R_alloc | apply Kd.R_drewN | apply Kd.R_drew)); exact (Kd.R_mono (Kd.R_far (p := ⟨gb1772, 4, none⟩) (Kd.R_far (p := ⟨gb1772, 3, none⟩) (Kd.R_far (p := ⟨gb1772, 2, none⟩) (Kd.R_far (p := ⟨gb1772, 1, none⟩) (Kd.R_far (p := ⟨gb1772, 0, none⟩) (Kd.R_types HO1771.out BK1772.out (by decide)) (fun _ hk => hk.2) (.int .i64 t1765)) (fun _ hk => hk.2) (.int .i64 t1766)) (fun _ hk => hk.2) (.int .i64 t1767)) (fun _ hk => hk.2) (.int .i64 t1768)) (fun _ hk => hk.2) (.slice Ao29 t1769.length co29)) (fun _ h_ => h_.1)))); (case side2 => exact (Kd.R_reads' HO1771.out).2.1); rintro e w30 ⟨rfl, hb⟩; refine ⟨_, rfl, ?_⟩; have n0_ := zC.mk (Kd.R_below (by (with_reducible repeat (first | apply Kd.R_alloc | apply Kd.R_drewN | apply Kd.R_drew)); exact (Kd.R_mono (Kd.R_far (p := ⟨gb1772, 4, none⟩) (Kd.R_far (p := ⟨gb1772, 3, none⟩) (Kd.R_far (p := ⟨gb1772, 2, none⟩) (Kd.R_far (p := ⟨gb1772, 1, none⟩) (Kd.R_far (p := ⟨gb1772, 0, none⟩) (Kd.R_types HO1762.out BK1772.out (by decide)) (fun _ hk => hk.2) (.int .i64 t1765)) (fun _ hk => hk.2) (.int .i64 t1766)) (fun _ hk => hk.2) (.int .i64 t1767)) (fun _ hk => hk.2) (.int .i64 t1768)) (fun _ hk => hk.2) (.slice Ao29 t1769.length co29)) (fun _ h_ => h_.1))) hb); have n1_ := zC.mk (Kd.R_below (by (with_reducible repeat (first | apply Kd.R_alloc | apply Kd.R_drewN | apply Kd.R_drew)); exact (Kd.R_mono (Kd.R_far (p := ⟨gb1772, 4, none⟩) (Kd.R_far (p := ⟨gb1772, 3, none⟩) (Kd.R_far (p := ⟨gb1772, 2, none⟩) (Kd.R_far (p := ⟨gb1772, 1, none⟩) (Kd.R_far (p := ⟨gb1772, 0, none⟩) (Kd.R_types HO1771.out BK1772.out (by decide)) (fun _ hk => hk.2) (.int .i64 t1765)) (fun _ hk => hk.2) (.int .i64 t1766)) (fun _ hk => hk.2) (.int .i64 t1767)) (fun _ hk => hk.2) (.int .i64 t1768)) (fun _ hk => hk.2) (.slice Ao29 t1769.length co29)) (fun _ h_ => h_.1))) hb); have n2_ := zC.mk (zK (g := gb1754) (o := .cells #[.int .i64 a0_0, .int .i64 a0_1, .int .i64 a0_2, .int .i64 a0_3, .slice A0_4 l0_4.length c0_4] 26 (0, 0)) (by (with_reducible repeat (first | refine zD ?_ _ | refine zG ?_ | refine zE ?_ _)); refine zV ?_ NB1754_1772.out _; (with_reducible repeat (first | refine zD ?_ _ | refine zG ?_ | refine zE ?_ _)); refine zV ?_ NB1754_1772.out _; (with_reducible repeat (first | refine zD ?_ _ | refine zG ?_ | refine zE ?_ _)); refine zV ?_ NB1754_1772.out _; (with_reducible repeat (first | refine zD ?_ _ | refine zG ?_ | refine zE ?_ _)); refine zV ?_ NB1754_1772.out _; (with_reducible repeat (first | refine zD ?_ _ | refine zG ?_ | refine zE ?_ _)); refine zV ?_ NB1754_1772.out _; (with_reducible repeat (first | refine zD ?_ _ | refine zG ?_ | refine zE ?_ _)); exact BK1754.out) hb); have n3_ := zC.mk (zK (g := gb1772) (o := .cells #[.int .i64 t1765, .int .i64 t1766, .int .i64 t1767, .int .i64 t1768, .slice Ao29 t1769.length co29] 30 (0, 0)) (by (with_reducible repeat (first | refine zD ?_ _ | refine zG ?_ | refine zE ?_ _)); refine zS (cs := #[.int .i64 t1765, .int .i64 t1766, .int .i64 t1767, .int .i64 t1768, .slice none 0 0]) ?_ 4 _ rfl; (with_reducible repeat (first | refine zD ?_ _ | refine zG ?_ | refine zE ?_ _)); refine zS (cs := #[.int .i64 t1765, .int .i64 t1766, .int .i64 t1767, .int .i64 0, .slice none 0 0]) ?_ 3 _ rfl; (with_reducible repeat (first | refine zD ?_ _ | refine zG ?_ | refine zE ?_ _)); refine zS (cs := #[.int .i64 t1765, .int .i64 t1766, .int .i64 0, .int .i64 0, .slice none 0 0]) ?_ 2 _ rfl; (with_reducible repeat (first | refine zD ?_ _ | refine zG ?_ | refine zE ?_ _)); refine zS (cs := #[.int .i64 t1765, .int .i64 0, .int .i64 0, .int .i64 0, .slice none 0 0]) ?_ 1 _ rfl; (with_reducible repeat (first | refine zD ?_ _ | refine zG ?_ | refine zE ?_ _)); refine zS (cs := #[.int .i64 0, .int .i64 0, .int .i64 0, .int .i64 0, .slice none 0 0]) ?_ 0 _ rfl; (with_reducible repeat (first | refine zD ?_ _ | refine zG ?_ | refine zE ?_ _)); exact BK1772.out) hb); have n4_ := zC.mk (zL (by repeat (first | (with_reducible first | exact HB.out | apply zI | apply zB | apply zF | refine zH ?_ GE1754.out | refine zH ?_ GE1772.out) | exact HB.out)) hb); clear HO1762; clear HO1771; clear BK1754; clear BK1772; clear HB; have HO1762 := n0_; have HO1771 := n1_; have BK1754 := n2_; have BK1772 := n3_; have HB := n4_; clear n0_ n1_ n2_ n3_ n4_; (try clear hb); (try clear hb2); (try clear hk); (try clear hi)))
     have n0_ := zC.mk (Kd.R_drew HO1762.out)
     have n1_ := zC.mk (Kd.R_drew HO1771.out)
     have n2_ := zC.mk (zG BK1754.out)
     have n3_ := zC.mk (zG BK1772.out)
     have n4_ := zC.mk (zF HB.out)
     clear HO1762
     clear HO1771
     clear BK1754
     clear BK1772
     clear HB
     have HO1762 := n0_
     have HO1771 := n1_
     have BK1754 := n2_
     have BK1772 := n3_
     have HB := n4_
     clear n0_ n1_ n2_ n3_ n4_
     refine start_ (n := 5) (S := fun w' => w'.cell? ⟨gb1772, 0, none⟩ = some (.int .i64 t1765) ∧ w'.cell? ⟨gb1772, 1, none⟩ = some (.int .i64 t1766) ∧ w'.cell? ⟨gb1772, 2, none⟩ = some (.int .i64 t1767) ∧ w'.cell? ⟨gb1772, 3, none⟩ = some (.int .i64 t1768) ∧ w'.cell? ⟨gb1772, 4, none⟩ = some (.slice Ao29 t1769.length co29) ∧ w'.cell? ⟨gb1754, 0, none⟩ = some (.int .i64 a0_0) ∧ w'.cell? ⟨gb1754, 1, none⟩ = some (.int .i64 a0_1) ∧ w'.cell? ⟨gb1754, 2, none⟩ = some (.int .i64 a0_2) ∧ w'.cell? ⟨gb1754, 3, none⟩ = some (.int .i64 a0_3) ∧ w'.cell? ⟨gb1754, 4, none⟩ = some (.slice A0_4 l0_4.length c0_4)) (ds := []) #[false, false, false, false, false] (by kernel_rfl) rfl rfl ⟨(zA BK1772.out 0).trans rfl, (zA BK1772.out 1).trans rfl, (zA BK1772.out 2).trans rfl, (zA BK1772.out 3).trans rfl, (zA BK1772.out 4).trans rfl, (zA BK1754.out 0).trans rfl, (zA BK1754.out 1).trans rfl, (zA BK1754.out 2).trans rfl, (zA BK1754.out 3).trans rfl, (zA BK1754.out 4).trans rfl⟩ (fun hHeld => ?_)
     generalize w30.drew = w31 at HO1762 HO1771 BK1754 BK1772 HB hHeld ⊢
     refine yC (i := 0) (N := some 39) (v := ?_) (a' := ?_) #[true, false, false, false, false] rfl rfl (by kernel_rfl) (fun _ _ _ h => h) (Or.inl ⟨by rfl, ?_⟩) hHeld ?_ ?_
     rotate_left
     ·
      rintro w' ⟨s0, s1, s2, s3, s4, s5, s6, s7, s8, s9⟩
      go_simp
      with_reducible rfl
     rotate_left
     ·
      simp only [Act.put, List.setIfInBounds_toArray, List.set_cons_zero, List.set_cons_succ, zP, zO]
      rfl
     refine yC (i := 1) (N := some 40) (v := ?_) (a' := ?_) #[true, true, false, false, false] rfl rfl (by kernel_rfl) (fun _ _ _ h => h) (Or.inl ⟨by rfl, ?_⟩) hHeld ?_ ?_
     rotate_left
     ·
      rintro w' ⟨s0, s1, s2, s3, s4, s5, s6, s7, s8, s9⟩
      go_simp
      with_reducible rfl
     rotate_left
     ·
      simp only [Act.put, List.setIfInBounds_toArray, List.set_cons_zero, List.set_cons_succ, zP, zO]
      rfl
     refine one_ (i := 2) (N := some 41) #[true, true, true, false, false] rfl rfl (by kernel_rfl) (by decide) (fun K hK => ?_)
     refine yD Try.func16 (by kernel_rfl) rfl #[.agg #[.int .i64 a0_0, .int .i64 a0_1, .int .i64 a0_2, .int .i64 a0_3, .slice A0_4 l0_4.length c0_4]] (by rfl) rfl rfl (by (try simp only [List.map_toArray, List.map_cons, List.map_nil]); first | done | rfl | (simp only [List.length_drop, List.length_take]; rfl)) ?_
     with_reducible refine (laws_toPattern.calls k a0_0 a0_1 a0_2 a0_3 _ _ l0_4 t1775 t1776 t1777 t1778 t1779 _ ?side1 ?side2 A14.out).mono ?_
     (case side1 => repeat (first | exact (Kd.C_below HR0_4.out HB.out) | (with_reducible refine Kd.C_alloc ?_ _) | (with_reducible refine Kd.C_drewN ?_ _) | (with_reducible refine Kd.C_drew ?_)))
     (case side2 => exact HC0_4.out)
     rintro e w32 ⟨v1780, rfl, ho0, hb⟩
     refine ⟨_, rfl, ?_⟩
     have n0_ := zC.mk (Kd.R_elder' (by (with_reducible repeat (first | apply Kd.R_alloc | apply Kd.R_drewN | apply Kd.R_drew)); exact HO1762.out) (Kd.R_base ho0) hb)
     have n1_ := zC.mk (Kd.R_elder' (by (with_reducible repeat (first | apply Kd.R_alloc | apply Kd.R_drewN | apply Kd.R_drew)); exact HO1771.out) (Kd.R_base ho0) hb)
     have n2_ := zC.mk (Kd.R_lower (Kd.R_new' (Kd.R_new' ho0 (Kd.R_lt (by (with_reducible repeat (first | apply Kd.R_alloc | apply Kd.R_drewN | apply Kd.R_drew)); exact HO1762.out))) (Kd.R_lt (by (with_reducible repeat (first | apply Kd.R_alloc | apply Kd.R_drewN | apply Kd.R_drew)); exact HO1771.out))) (zM (by repeat (first | (with_reducible first | exact HB.out | apply zI | apply zB | apply zF | refine zH ?_ GE1754.out | refine zH ?_ GE1772.out) | exact HB.out))))
     have n3_ := zC.mk (zK (g := gb1754) (o := .cells #[.int .i64 a0_0, .int .i64 a0_1, .int .i64 a0_2, .int .i64 a0_3, .slice A0_4 l0_4.length c0_4] 26 (0, 0)) (by (with_reducible repeat (first | refine zD ?_ _ | refine zG ?_ | refine zE ?_ _)); exact BK1754.out) hb)
     have n4_ := zC.mk (zK (g := gb1772) (o := .cells #[.int .i64 t1765, .int .i64 t1766, .int .i64 t1767, .int .i64 t1768, .slice Ao29 t1769.length co29] 30 (0, 0)) (by (with_reducible repeat (first | refine zD ?_ _ | refine zG ?_ | refine zE ?_ _)); exact BK1772.out) hb)
     have n5_ := zC.mk (zL (by repeat (first | (with_reducible first | exact HB.out | apply zI | apply zB | apply zF | refine zH ?_ GE1754.out | refine zH ?_ GE1772.out) | exact HB.out)) hb)
     clear HO1762
     clear HO1771
     clear BK1754
     clear BK1772
     clear HB
     have HO1762 := n0_
     have HO1771 := n1_
     have HO1781 := n2_
     have BK1754 := n3_
     have BK1772 := n4_
     have HB := n5_
     clear n0_ n1_ n2_ n3_ n4_ n5_
     (try clear hb)
     (try clear hb2)
     (try clear hk)
     (try clear hi)
     (try clear ho0)
     obtain ⟨Ao33, co33, eo33⟩ := Kd.R_slice HO1781.out
     (first | subst eo33 | (injection eo33 with f1_ f2_ f3_; have f4_ := f1_.symm; have f5_ := f3_.symm; clear f1_ f2_ f3_; subst f4_; subst f5_))
     refine hK.out _ _ ⟨(zA BK1772.out 0).trans rfl, (zA BK1772.out 1).trans rfl, (zA BK1772.out 2).trans rfl, (zA BK1772.out 3).trans rfl, (zA BK1772.out 4).trans rfl, (zA BK1754.out 0).trans rfl, (zA BK1754.out 1).trans rfl, (zA BK1754.out 2).trans rfl, (zA BK1754.out 3).trans rfl, (zA BK1754.out 4).trans rfl⟩ (fun hHeld => ?_)
     clear hK K
     refine yB (a' := ?_) ?_ ?_
     rotate_left
     ·
      show Act.put _ (some 41) _ = _
      simp only [Act.put, List.setIfInBounds_toArray, List.set_cons_zero, List.set_cons_succ, zP, zO]
      rfl
     refine one_ (i := 3) (N := some 42) #[true, true, true, true, false] rfl rfl (by kernel_rfl) (by decide) (fun K hK => ?_)
     refine yD Try.func18 (by kernel_rfl) rfl #[.agg #[.int .i64 t1765, .int .i64 t1766, .int .i64 t1767, .int .i64 t1768, .slice Ao29 t1769.length co29], .agg #[.int .i64 t1775, .int .i64 t1776, .int .i64 t1777, .int .i64 t1778, .slice Ao33 t1779.length co33]] (by rfl) rfl rfl (by (try simp only [List.map_toArray, List.map_cons, List.map_nil]); first | done | rfl | (simp only [List.length_drop, List.length_take]; rfl)) ?_
     with_reducible refine (laws_eqPattern.calls k t1765 t1766 t1767 t1768 _ _ t1769 t1775 t1776 t1777 t1778 _ _ t1779 true _ ?side1 ?side2 ?side3 ?side4 A15.out).mono ?_
     (case side1 => repeat (first | exact (Kd.R_reads' HO1771.out).2.2 | (with_reducible refine Kd.C_alloc ?_ _) | (with_reducible refine Kd.C_drewN ?_ _) | (with_reducible refine Kd.C_drew ?_)))
     (case side2 => exact (Kd.R_reads' HO1771.out).2.1)
     (case side3 => repeat (first | exact (Kd.R_reads' HO1781.out).2.2 | (with_reducible refine Kd.C_alloc ?_ _) | (with_reducible refine Kd.C_drewN ?_ _) | (with_reducible refine Kd.C_drew ?_)))
     (case side4 => exact (Kd.R_reads' HO1781.out).2.1)
     rintro e w34 ⟨rfl, hb⟩
     refine ⟨_, rfl, ?_⟩
     have n0_ := zC.mk (Kd.R_below (by (with_reducible repeat (first | apply Kd.R_alloc | apply Kd.R_drewN | apply Kd.R_drew)); exact HO1762.out) hb)
     have n1_ := zC.mk (Kd.R_below (by (with_reducible repeat (first | apply Kd.R_alloc | apply Kd.R_drewN | apply Kd.R_drew)); exact HO1771.out) hb)
     have n2_ := zC.mk (Kd.R_below (by (with_reducible repeat (first | apply Kd.R_alloc | apply Kd.R_drewN | apply Kd.R_drew)); exact HO1781.out) hb)
     have n3_ := zC.mk (zK (g := gb1754) (o := .cells #[.int .i64 a0_0, .int .i64 a0_1, .int .i64 a0_2, .int .i64 a0_3, .slice A0_4 l0_4.length c0_4] 26 (0, 0)) (by (with_reducible repeat (first | refine zD ?_ _ | refine zG ?_ | refine zE ?_ _)); exact BK1754.out) hb)
     have n4_ := zC.mk (zK (g := gb1772) (o := .cells #[.int .i64 t1765, .int .i64 t1766, .int .i64 t1767, .int .i64 t1768, .slice Ao29 t1769.length co29] 30 (0, 0)) (by (with_reducible repeat (first | refine zD ?_ _ | refine zG ?_ | refine zE ?_ _)); exact BK1772.out) hb)
     have n5_ := zC.mk (zL (by repeat (first | (with_reducible first | exact HB.out | apply zI | apply zB | apply zF | refine zH ?_ GE1754.out | refine zH ?_ GE1772.out) | exact HB.out)) hb)
     clear HO1762
     clear HO1771
     clear HO1781
     clear BK1754
     clear BK1772
     clear HB
     have HO1762 := n0_
     have HO1771 := n1_
     have HO1781 := n2_
     have BK1754 := n3_
     have BK1772 := n4_
     have HB := n5_
     clear n0_ n1_ n2_ n3_ n4_ n5_
     (try clear hb)
     (try clear hb2)
     (try clear hk)
     (try clear hi)
     refine hK.out _ _ ⟨(zA BK1772.out 0).trans rfl, (zA BK1772.out 1).trans rfl, (zA BK1772.out 2).trans rfl, (zA BK1772.out 3).trans rfl, (zA BK1772.out 4).trans rfl, (zA BK1754.out 0).trans rfl, (zA BK1754.out 1).trans rfl, (zA BK1754.out 2).trans rfl, (zA BK1754.out 3).trans rfl, (zA BK1754.out 4).trans rfl⟩ (fun hHeld => ?_)
     clear hK K
     refine yB (a' := ?_) ?_ ?_
     rotate_left
     ·
      show Act.put _ (some 42) _ = _
      simp only [Act.put, List.setIfInBounds_toArray, List.set_cons_zero, List.set_cons_succ, zP, zO]
      rfl
     refine zW (i := 4) (N := some 43) (v := ?_) (a' := ?_) #[true, true, true, true, true] rfl rfl (by kernel_rfl) (fun _ _ _ h => h) (Or.inl ⟨by rfl, ?_⟩) ?_ ?_
     rotate_left
     ·
      intro w'
      go_simp
      with_reducible rfl
     rotate_left
     ·
      simp only [Act.put, List.setIfInBounds_toArray, List.set_cons_zero, List.set_cons_succ, zP, zO]
      rfl
     refine done_ (by kernel_rfl) ?_
     try go_wp2
     go_ret
     exact ⟨by first | rfl | (simp [errW_none, errW_some] <;> rfl) | (simp [*, errW_none, errW_some] <;> rfl), by repeat (first | (with_reducible first | exact HB.out | apply zI | apply zB | apply zF | refine zH ?_ GE1754.out | refine zH ?_ GE1772.out) | exact HB.out)⟩
    ·
     replace c16 := Bool.eq_false_iff.mpr c16
     subst c16
     have H1 : (none) = some r := by rw [if_neg (show ¬ (false = true) by decide)] at H; exact H
     clear H
     have H := H1
     clear H1
     exact absurd H (by simp)
   ·
    rw [if_neg c13] at H
    exact absurd H (by simp)
  ·
   rw [if_neg c12] at H
   exact absurd H (by simp)

end Go.Proofs.Ytomgliinndfliaa.X
