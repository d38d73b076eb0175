/- Part of the proof of the law FnExactStrideOf: each function of the code computes what its plain function says. No condition of its own. -/
import Derived.Test.YtomgliinndfliaaCFnExactStrideOfW2
namespace Go.Proofs.Ytomgliinndfliaa.X
open Go.RowKit Go.Proofs.YtomgliinndfliaaW.PrintWords Go.Proofs.YtomgliinndfliaaW.PrintLast Go.Proofs.YtomgliinndfliaaW.PrintMore
attribute [local go_sem] max2_int min2_int max_two min_two max_three min_three max_four min_four   -- for this text's walks alone
set_option linter.unusedVariables false
set_option linter.unusedSimpArgs false

/-! ### impl_Pattern_keeps: function 151 -/
def impl_Pattern_keeps.T4 : Bool × List (List Nat × List Nat) := (true, [([], []), ([], []), ([], []), ([1, 2], [1, 2]), ([0, 3, 3], [0, 3]), ([], []), ([5], [5]), ([], []), ([6, 7], [6, 7]), ([8], [8]), ([4, 9], [4, 9])])
def impl_Pattern_keeps.B4 : List Nat := [0, 0, 0, 6, 15, 0, 32, 0, 224, 480, 1023]
theorem impl_Pattern_keeps.tab4 : rtab .any (opsOf Try.f151 4) = impl_Pattern_keeps.T4 := by kernel_rfl
theorem impl_Pattern_keeps.bits4 : waitsOk impl_Pattern_keeps.T4.2 impl_Pattern_keeps.B4 = true := by kernel_rfl
set_option maxHeartbeats 8000000 in
set_option maxRecDepth 100000 in
theorem impl_Pattern_keeps.calls (k : Nat) (a0_0 : Int) (a0_1 : Int) (a0_2 : Int) (a0_3 : Int) (A0_4 : Option Addr) (c0_4 : Nat) (l0_4 : List Int) (a1_0 : Int) (a1_1 : Int) (a1_2 : Int) (a1_3 : Int) (a1_4 : Int) (a1_5 : Int) (r : Bool) (w : World) (hr0_4 : Kd.C (Kd.int .i64) w A0_4 l0_4.length l0_4) (hc0_4 : l0_4.length ≤ c0_4) (h : impl_Pattern_keeps.f k a0_0 a0_1 a0_2 a0_3 l0_4 a1_0 a1_1 a1_2 a1_3 a1_4 a1_5 = some r) :
  Calls Try.prog 151 #[.agg #[.int .i64 a0_0, .int .i64 a0_1, .int .i64 a0_2, .int .i64 a0_3, .slice A0_4 l0_4.length c0_4], .agg #[.int .i64 a1_0, .int .i64 a1_1, .int .i64 a1_2, .int .i64 a1_3, .int .i64 a1_4, .int .i64 a1_5]] w fun e w' => e = .returned (.bool r) ∧ Below w.heap.size w w' := by
 have hu30 := Try.underlying30
 have hu90 := Try.underlying90
 have hu28 := Try.underlying28
 have hu38 := Try.underlying38
 have HR0_4 := Aside0.mk hr0_4
 have HC0_4 := Aside0.mk hc0_4
 clear hr0_4 hc0_4
 have HB := Aside0.mk (Below.refl w.heap.size w)
 have H : ((impl_Lattice_cells.f k a0_1 a0_2 a0_3).bind fun t1425 => (impl_Pattern_keeps.l0 k t1425 (t1425.length : Int) 0 a0_0 a0_1 a0_2 a0_3 l0_4 a1_0 a1_1 a1_2 a1_3 a1_4 a1_5)) = some r := h
 clear h
 replace H := Option.bind_eq_some_iff.mp H
 obtain ⟨t1425, A30, H⟩ := H
 replace H : (impl_Pattern_keeps.l0 k t1425 (t1425.length : Int) 0 a0_0 a0_1 a0_2 a0_3 l0_4 a1_0 a1_1 a1_2 a1_3 a1_4 a1_5) = some r := H
 have A3 := Aside0.mk A30
 clear A30
 have H' := Aside0.mk H
 clear H
 go_enter Try.func151, Try.ntmps151
 go_wp2_with (first | ((with_reducible refine gate_dst (N := 2) rfl ?_); refine box_event ?hg (N := 2) ?hd (cs := #[.int .i64 a0_0, .int .i64 a0_1, .int .i64 a0_2, .int .i64 a0_3, .slice A0_4 l0_4.length c0_4]) (t := 30) ?hr ?_; (case hd => rfl); (case hg => rfl); (case hr => first | (go_simp; done) | (go_simp; rfl)); intro gb1423 hg w4 hbox hb; have n0_ := Aside0.mk (below_step (by repeat (first | (with_reducible first | exact HB.out | apply below_alloc | apply pw_below_drewN | apply below_drew1) | exact HB.out)) hb); have n1_ := Aside0.mk (hbox); have n2_ := Aside0.mk ((by rw [hg]; exact (below_size (by repeat (first | (with_reducible first | exact HB.out | apply below_alloc | apply pw_below_drewN | apply below_drew1) | exact HB.out))) : w.heap.size ≤ gb1423)); have n3_ := Aside0.mk ((by rw [hg]; exact (below_size (by repeat (first | (with_reducible first | exact HB.out | apply below_alloc | apply pw_below_drewN | apply below_drew1) | exact HB.out))) : w.heap.size ≤ gb1423)); clear HB; have HB := n0_; have BK1423 := n1_; have GW1423 := n2_; have GE1423 := n3_; clear n0_ n1_ n2_ n3_; clear hb hbox hg) | ((with_reducible refine gate_dst (N := 3) rfl ?_); refine box_event ?hg (N := 3) ?hd (cs := #[.int .i64 a1_0, .int .i64 a1_1, .int .i64 a1_2, .int .i64 a1_3, .int .i64 a1_4, .int .i64 a1_5]) (t := 90) ?hr ?_; (case hd => rfl); (case hg => rfl); (case hr => first | (go_simp; done) | (go_simp; rfl)); intro gb1424 hg w5 hbox hb; have n0_ := Aside0.mk (blk_below (g := gb1423) (o := .cells #[.int .i64 a0_0, .int .i64 a0_1, .int .i64 a0_2, .int .i64 a0_3, .slice A0_4 l0_4.length c0_4] 30 (0, 0)) (by (with_reducible repeat (first | refine blk_drewN ?_ _ | refine blk_drew ?_ | refine blk_alloc ?_ _)); exact BK1423.out) hb); have n1_ := Aside0.mk (below_step (by repeat (first | (with_reducible first | exact HB.out | apply below_alloc | apply pw_below_drewN | apply below_drew1 | refine below_set ?_ GE1423.out) | exact HB.out)) hb); have n2_ := Aside0.mk (hbox); have n3_ := Aside0.mk ((by rw [hg]; exact (below_size (by repeat (first | (with_reducible first | exact HB.out | apply below_alloc | apply pw_below_drewN | apply below_drew1 | refine below_set ?_ GE1423.out) | exact HB.out))) : w.heap.size ≤ gb1424)); have n4_ := Aside0.mk ((by rw [hg]; exact (below_size (by repeat (first | (with_reducible first | exact HB.out | apply below_alloc | apply pw_below_drewN | apply below_drew1 | refine below_set ?_ GE1423.out) | exact HB.out))) : w.heap.size ≤ gb1424)); have n5_ := Aside0.mk ((by rw [hg]; exact Nat.ne_of_lt (blk_lt (g := gb1423) (o := .cells #[.int .i64 a0_0, .int .i64 a0_1, .int .i64 a0_2, .int .i64 a0_3, .slice A0_4 l0_4.length c0_4] 30 (0, 0)) (by (with_reducible repeat (first | refine blk_drewN ?_ _ | refine blk_drew ?_ | refine blk_alloc ?_ _)); exact BK1423.out)) : gb1423 ≠ gb1424)); have n6_ := Aside0.mk ((by rw [hg]; exact Nat.ne_of_gt (blk_lt (g := gb1423) (o := .cells #[.int .i64 a0_0, .int .i64 a0_1, .int .i64 a0_2, .int .i64 a0_3, .slice A0_4 l0_4.length c0_4] 30 (0, 0)) (by (with_reducible repeat (first | refine blk_drewN ?_ _ | refine blk_drew ?_ | refine blk_alloc ?_ _)); exact BK1423.out)) : gb1424 ≠ gb1423)); clear BK1423; clear HB; have BK1423 := n0_; have HB := n1_; have BK1424 := n2_; have GW1424 := n3_; have GE1424 := n4_; have NB1423_1424 := n5_; have NB1424_1423 := n6_; clear n0_ n1_ n2_ n3_ n4_ n5_ n6_; clear hb hbox hg; have hnb6 := NB1423_1424.out; have hnc6 := NB1424_1423.out; have hcz7_0 : w5.cell? ⟨gb1423, 0, none⟩ = some (.int .i64 a0_0) := (blk_cell BK1423.out 0).trans rfl; have hcz7_1 : w5.cell? ⟨gb1423, 1, none⟩ = some (.int .i64 a0_1) := (blk_cell BK1423.out 1).trans rfl; have hcz7_2 : w5.cell? ⟨gb1423, 2, none⟩ = some (.int .i64 a0_2) := (blk_cell BK1423.out 2).trans rfl; have hcz7_3 : w5.cell? ⟨gb1423, 3, none⟩ = some (.int .i64 a0_3) := (blk_cell BK1423.out 3).trans rfl; have hcz7_4 : w5.cell? ⟨gb1423, 4, none⟩ = some (.slice A0_4 l0_4.length c0_4) := (blk_cell BK1423.out 4).trans rfl; have hfz7_0 := blk_frozen BK1423.out 0; have hfz7_1 := blk_frozen BK1423.out 1; have hfz7_2 := blk_frozen BK1423.out 2; have hfz7_3 := blk_frozen BK1423.out 3; have hfz7_4 := blk_frozen BK1423.out 4) | ((with_reducible refine gate_callee (f := 66) rfl ?_); refine goesL_ (some 9) rfl rfl Try.func66 (by kernel_rfl) rfl #[.agg #[.int .i64 a0_1, .int .i64 a0_2, .int .i64 a0_3]] rfl (by (try simp only [List.map_toArray, List.map_cons, List.map_nil]); first | done | rfl | (simp only [List.length_drop, List.length_take]; rfl)) ?_; (with_reducible refine (impl_Lattice_cells.calls k a0_1 a0_2 a0_3 t1425 _ A3.out).mono ?_); rintro e w8 ⟨v1426, rfl, ho0, hb⟩; refine ⟨_, rfl, ?_⟩; have n0_ := Aside0.mk (Kd.R_lower ho0 (below_size (by repeat (first | (with_reducible first | exact HB.out | apply below_alloc | apply pw_below_drewN | apply below_drew1 | refine below_set ?_ GE1423.out | refine below_set ?_ GE1424.out) | exact HB.out)))); have n1_ := Aside0.mk (blk_below (g := gb1423) (o := .cells #[.int .i64 a0_0, .int .i64 a0_1, .int .i64 a0_2, .int .i64 a0_3, .slice A0_4 l0_4.length c0_4] 30 (0, 0)) (by (with_reducible repeat (first | refine blk_drewN ?_ _ | refine blk_drew ?_ | refine blk_alloc ?_ _)); exact BK1423.out) hb); have n2_ := Aside0.mk (blk_below (g := gb1424) (o := .cells #[.int .i64 a1_0, .int .i64 a1_1, .int .i64 a1_2, .int .i64 a1_3, .int .i64 a1_4, .int .i64 a1_5] 90 (0, 0)) (by (with_reducible repeat (first | refine blk_drewN ?_ _ | refine blk_drew ?_ | refine blk_alloc ?_ _)); exact BK1424.out) hb); have n3_ := Aside0.mk (below_step (by repeat (first | (with_reducible first | exact HB.out | apply below_alloc | apply pw_below_drewN | apply below_drew1 | refine below_set ?_ GE1423.out | refine below_set ?_ GE1424.out) | exact HB.out)) hb); clear BK1423; clear BK1424; clear HB; have HO1427 := n0_; have BK1423 := n1_; have BK1424 := n2_; have HB := n3_; clear n0_ n1_ n2_ n3_; (try clear hb); (try clear hb2); (try clear hk); (try clear hi); (try clear ho0); obtain ⟨Ao9, co9, eo9⟩ := Kd.R_slice HO1427.out; subst eo9))
 go_loopg [11] k (fun kq v11 w' => ∃ (x11_1 : Int), v11 = .int .i64 x11_1 ∧ Aside0 (impl_Pattern_keeps.l0 kq t1425 (t1425.length : Int) x11_1 a0_0 a0_1 a0_2 a0_3 l0_4 a1_0 a1_1 a1_2 a1_3 a1_4 a1_5 = some r) ∧ Aside0 (kq ≤ k) ∧ Aside0 (Kd.R k38 38 w' w.heap.size (fun _ => True) (.slice Ao9 t1425.length co9) t1425) ∧ Aside0 (w'.heap[gb1423]? = some (.cells #[.int .i64 a0_0, .int .i64 a0_1, .int .i64 a0_2, .int .i64 a0_3, (.slice A0_4 l0_4.length c0_4)] 30 (0, 0))) ∧ Aside0 (w'.heap[gb1424]? = some (.cells #[.int .i64 a1_0, .int .i64 a1_1, .int .i64 a1_2, .int .i64 a1_3, .int .i64 a1_4, .int .i64 a1_5] 90 (0, 0))) ∧ Aside0 (Below w.heap.size w w'))
 case atStart => exact ⟨(0), (by first | rfl | (simp; done) | (simp [*]; done)), H', ⟨Nat.le_refl _⟩, ⟨by (with_reducible repeat (first | apply Kd.R_alloc | apply Kd.R_drewN | apply Kd.R_drew)); exact HO1427.out⟩, ⟨by (with_reducible repeat (first | refine blk_drewN ?_ _ | refine blk_drew ?_ | refine blk_alloc ?_ _)); exact BK1423.out⟩, ⟨by (with_reducible repeat (first | refine blk_drewN ?_ _ | refine blk_drew ?_ | refine blk_alloc ?_ _)); exact BK1424.out⟩, ⟨by repeat (first | (with_reducible first | exact HB.out | apply below_alloc | apply pw_below_drewN | apply below_drew1 | refine below_set ?_ GE1423.out | refine below_set ?_ GE1424.out) | exact HB.out)⟩⟩
 case round =>
  clear H'
  try clear c1
  try clear p2
  try clear c6
  try clear hcz7_0
  try clear hcz7_1
  try clear hcz7_2
  try clear hcz7_3
  try clear hcz7_4
  try clear hfz7_0
  try clear hfz7_1
  try clear hfz7_2
  try clear hfz7_3
  try clear hfz7_4
  obtain ⟨x11_1, rfl, HA, HK1, HO_9, BK1423, BK1424, HB⟩ := hrel
  cases gk with
  | zero => exact absurd HA.out (by simp [impl_Pattern_keeps.l0])
  | succ k1 =>
   have H := HA.out
   clear HA
   simp only [impl_Pattern_keeps.l0] at H
   by_cases c10 : x11_1 < (t1425.length : Int)
   ·
    rw [if_pos c10] at H
    have c10b0 : decide (x11_1 < (t1425.length : Int)) = true := decide_eq_true c10
    clear c10
    by_cases c11 : 0 ≤ x11_1
    ·
     rw [if_pos c11] at H
     have c11b0 : decide (0 ≤ x11_1) = true := decide_eq_true c11
     clear c11
     by_cases c12 : x11_1 < (t1425.length : Int)
     ·
      rw [if_pos c12] at H
      have c12b0 : decide (x11_1 < (t1425.length : Int)) = true := decide_eq_true c12
      clear c12
      replace H := Option.bind_eq_some_iff.mp H
      obtain ⟨⟨t1430, t1431⟩, A130, H⟩ := H
      replace H : ((impl_Pattern_at.f a0_0 a0_1 a0_2 a0_3 l0_4 t1430 t1431).bind fun t1432 => (if x11_1 < (l0_4.length : Int) then (if t1432 = (rd l0_4 x11_1) then (impl_Pattern_keeps.l0 k1 t1425 (t1425.length : Int) (wrap64 (x11_1 + 1)) a0_0 a0_1 a0_2 a0_3 l0_4 a1_0 a1_1 a1_2 a1_3 a1_4 a1_5) else (some false)) else (none))) = some r := H
      have A13 := Aside0.mk A130
      clear A130
      replace H := Option.bind_eq_some_iff.mp H
      obtain ⟨t1432, A140, H⟩ := H
      replace H : (if x11_1 < (l0_4.length : Int) then (if t1432 = (rd l0_4 x11_1) then (impl_Pattern_keeps.l0 k1 t1425 (t1425.length : Int) (wrap64 (x11_1 + 1)) a0_0 a0_1 a0_2 a0_3 l0_4 a1_0 a1_1 a1_2 a1_3 a1_4 a1_5) else (some false)) else (none)) = some r := H
      have A14 := Aside0.mk A140
      clear A140
      by_cases c15 : x11_1 < (l0_4.length : Int)
      ·
       rw [if_pos c15] at H
       have c15b0 : decide (x11_1 < (l0_4.length : Int)) = true := decide_eq_true c15
       clear c15
       by_cases c16 : t1432 = (rd l0_4 x11_1)
       ·
        rw [if_pos c16] at H
        have c16b0 : (t1432 == (rd l0_4 x11_1)) = true := beq_iff_eq.mpr c16
        have c16b1 : (t1432 != (rd l0_4 x11_1)) = false := bne_eq_false_iff_eq.mpr c16
        clear c16
        have H' := Aside0.mk H
        clear H
        have p1428 : 0 ≤ (x11_1 : Int) := of_decide_eq_true (by first | (with_reducible assumption) | assumption)
        have q1428 : x11_1 < (t1425.length : Int) := of_decide_eq_true (by first | (with_reducible assumption) | assumption)
        obtain ⟨ad1428, e1428, hx1428_0, hx1428_1⟩ := at_T38 (Kd.R_reads' HO_9.out).2.2 x11_1 p1428 q1428
        cases e1428
        replace p1428 := eq_true p1428
        replace q1428 := eq_true q1428
        try go_wp2_with (first | ((with_reducible refine gate_dst (N := 6) rfl ?_); refine box_event ?hg (N := 6) ?hd (cs := #[.int .i64 0, .int .i64 0]) (t := 38) ?hr ?_; (case hd => rfl); (case hg => rfl); (case hr => first | (go_simp; done) | (go_simp; rfl)); intro gb1429 hg w17 hbox hb; have n0_ := Aside0.mk (Kd.R_below (Kd.R_elderB (by (with_reducible repeat (first | apply Kd.R_alloc | apply Kd.R_drewN | apply Kd.R_drew)); exact HO_9.out) gb1429 (Nat.le_of_eq hg.symm)) hb); have n1_ := Aside0.mk (blk_below (g := gb1423) (o := .cells #[.int .i64 a0_0, .int .i64 a0_1, .int .i64 a0_2, .int .i64 a0_3, .slice A0_4 l0_4.length c0_4] 30 (0, 0)) (by (with_reducible repeat (first | refine blk_drewN ?_ _ | refine blk_drew ?_ | refine blk_alloc ?_ _)); exact BK1423.out) hb); have n2_ := Aside0.mk (blk_below (g := gb1424) (o := .cells #[.int .i64 a1_0, .int .i64 a1_1, .int .i64 a1_2, .int .i64 a1_3, .int .i64 a1_4, .int .i64 a1_5] 90 (0, 0)) (by (with_reducible repeat (first | refine blk_drewN ?_ _ | refine blk_drew ?_ | refine blk_alloc ?_ _)); exact BK1424.out) hb); have n3_ := Aside0.mk (below_step (by repeat (first | (with_reducible first | exact HB.out | apply below_alloc | apply pw_below_drewN | apply below_drew1 | refine below_set ?_ GE1423.out | refine below_set ?_ GE1424.out) | exact HB.out)) hb); have n4_ := Aside0.mk (hbox); have n5_ := Aside0.mk ((by rw [hg]; exact (below_size (by repeat (first | (with_reducible first | exact HB.out | apply below_alloc | apply pw_below_drewN | apply below_drew1 | refine below_set ?_ GE1423.out | refine below_set ?_ GE1424.out) | exact HB.out))) : w.heap.size ≤ gb1429)); have n6_ := Aside0.mk ((by rw [hg]; exact (below_size (by repeat (first | (with_reducible first | exact HB.out | apply below_alloc | apply pw_below_drewN | apply below_drew1 | refine below_set ?_ GE1423.out | refine below_set ?_ GE1424.out) | exact HB.out))) : w.heap.size ≤ gb1429)); have n7_ := Aside0.mk ((by rw [hg]; exact Nat.ne_of_lt (blk_lt (g := gb1423) (o := .cells #[.int .i64 a0_0, .int .i64 a0_1, .int .i64 a0_2, .int .i64 a0_3, .slice A0_4 l0_4.length c0_4] 30 (0, 0)) (by (with_reducible repeat (first | refine blk_drewN ?_ _ | refine blk_drew ?_ | refine blk_alloc ?_ _)); exact BK1423.out)) : gb1423 ≠ gb1429)); have n8_ := Aside0.mk ((by rw [hg]; exact Nat.ne_of_gt (blk_lt (g := gb1423) (o := .cells #[.int .i64 a0_0, .int .i64 a0_1, .int .i64 a0_2, .int .i64 a0_3, .slice A0_4 l0_4.length c0_4] 30 (0, 0)) (by (with_reducible repeat (first | refine blk_drewN ?_ _ | refine blk_drew ?_ | refine blk_alloc ?_ _)); exact BK1423.out)) : gb1429 ≠ gb1423)); have n9_ := Aside0.mk ((by rw [hg]; exact Nat.ne_of_lt (blk_lt (g := gb1424) (o := .cells #[.int .i64 a1_0, .int .i64 a1_1, .int .i64 a1_2, .int .i64 a1_3, .int .i64 a1_4, .int .i64 a1_5] 90 (0, 0)) (by (with_reducible repeat (first | refine blk_drewN ?_ _ | refine blk_drew ?_ | refine blk_alloc ?_ _)); exact BK1424.out)) : gb1424 ≠ gb1429)); have n10_ := Aside0.mk ((by rw [hg]; exact Nat.ne_of_gt (blk_lt (g := gb1424) (o := .cells #[.int .i64 a1_0, .int .i64 a1_1, .int .i64 a1_2, .int .i64 a1_3, .int .i64 a1_4, .int .i64 a1_5] 90 (0, 0)) (by (with_reducible repeat (first | refine blk_drewN ?_ _ | refine blk_drew ?_ | refine blk_alloc ?_ _)); exact BK1424.out)) : gb1429 ≠ gb1424)); clear HO_9; clear BK1423; clear BK1424; clear HB; have HO_9 := n0_; have BK1423 := n1_; have BK1424 := n2_; have HB := n3_; have BK1429 := n4_; have GW1429 := n5_; have GE1429 := n6_; have NB1423_1429 := n7_; have NB1429_1423 := n8_; have NB1424_1429 := n9_; have NB1429_1424 := n10_; clear n0_ n1_ n2_ n3_ n4_ n5_ n6_ n7_ n8_ n9_ n10_; clear hb hbox hg; have hnb18 := NB1429_1423.out; have hnc18 := NB1423_1429.out; have hnb19 := NB1429_1424.out; have hnc19 := NB1424_1429.out; have hcz20_0 : w17.cell? ⟨gb1429, 0, none⟩ = some (.int .i64 0) := (blk_cell BK1429.out 0).trans rfl; have hcz20_1 : w17.cell? ⟨gb1429, 1, none⟩ = some (.int .i64 0) := (blk_cell BK1429.out 1).trans rfl; have hfz20_0 := blk_frozen BK1429.out 0; have hfz20_1 := blk_frozen BK1429.out 1))
        have n0_ : Aside0 (Kd.R k38 38 ((w17.setCell ⟨gb1429, 0, none⟩ (.int .i64 ((rd_T38 t1425 x11_1).f0))).setCell ⟨gb1429, 1, none⟩ (.int .i64 ((rd_T38 t1425 x11_1).f1))) w.heap.size (fun k_ => k_ ≠ gb1429) (.slice (some ad1428) t1425.length co9) t1425) := ⟨by (with_reducible repeat (first | apply Kd.R_alloc | apply Kd.R_drewN | apply Kd.R_drew)); exact Kd.R_mono (Kd.R_far (p := ⟨gb1429, 1, none⟩) (Kd.R_far (p := ⟨gb1429, 0, none⟩) (Kd.R_mono HO_9.out (fun k_ hk => (⟨hk, hk.2⟩ : _ ∧ k_ ≠ gb1429))) (fun _ hk => hk.2) (.int .i64 ((rd_T38 t1425 x11_1).f0))) (fun _ hk => hk.2) (.int .i64 ((rd_T38 t1425 x11_1).f1))) (fun _ hk => hk.1.2)⟩
        have n1_ : Aside0 (((w17.setCell ⟨gb1429, 0, none⟩ (.int .i64 ((rd_T38 t1425 x11_1).f0))).setCell ⟨gb1429, 1, none⟩ (.int .i64 ((rd_T38 t1425 x11_1).f1))).heap[gb1423]? = some (.cells #[.int .i64 a0_0, .int .i64 a0_1, .int .i64 a0_2, .int .i64 a0_3, .slice A0_4 l0_4.length c0_4] 30 (0, 0))) := ⟨by (with_reducible repeat (first | refine blk_drewN ?_ _ | refine blk_drew ?_ | refine blk_alloc ?_ _)); refine blk_far ?_ NB1423_1429.out _; (with_reducible repeat (first | refine blk_drewN ?_ _ | refine blk_drew ?_ | refine blk_alloc ?_ _)); refine blk_far ?_ NB1423_1429.out _; (with_reducible repeat (first | refine blk_drewN ?_ _ | refine blk_drew ?_ | refine blk_alloc ?_ _)); exact BK1423.out⟩
        have n2_ : Aside0 (((w17.setCell ⟨gb1429, 0, none⟩ (.int .i64 ((rd_T38 t1425 x11_1).f0))).setCell ⟨gb1429, 1, none⟩ (.int .i64 ((rd_T38 t1425 x11_1).f1))).heap[gb1424]? = some (.cells #[.int .i64 a1_0, .int .i64 a1_1, .int .i64 a1_2, .int .i64 a1_3, .int .i64 a1_4, .int .i64 a1_5] 90 (0, 0))) := ⟨by (with_reducible repeat (first | refine blk_drewN ?_ _ | refine blk_drew ?_ | refine blk_alloc ?_ _)); refine blk_far ?_ NB1424_1429.out _; (with_reducible repeat (first | refine blk_drewN ?_ _ | refine blk_drew ?_ | refine blk_alloc ?_ _)); refine blk_far ?_ NB1424_1429.out _; (with_reducible repeat (first | refine blk_drewN ?_ _ | refine blk_drew ?_ | refine blk_alloc ?_ _)); exact BK1424.out⟩
        have n3_ : Aside0 (((w17.setCell ⟨gb1429, 0, none⟩ (.int .i64 ((rd_T38 t1425 x11_1).f0))).setCell ⟨gb1429, 1, none⟩ (.int .i64 ((rd_T38 t1425 x11_1).f1))).heap[gb1429]? = some (.cells #[.int .i64 ((rd_T38 t1425 x11_1).f0), .int .i64 ((rd_T38 t1425 x11_1).f1)] 38 (0, 0))) := ⟨by (with_reducible repeat (first | refine blk_drewN ?_ _ | refine blk_drew ?_ | refine blk_alloc ?_ _)); refine blk_put (cs := #[.int .i64 ((rd_T38 t1425 x11_1).f0), .int .i64 0]) ?_ 1 _ rfl; (with_reducible repeat (first | refine blk_drewN ?_ _ | refine blk_drew ?_ | refine blk_alloc ?_ _)); refine blk_put (cs := #[.int .i64 0, .int .i64 0]) ?_ 0 _ rfl; (with_reducible repeat (first | refine blk_drewN ?_ _ | refine blk_drew ?_ | refine blk_alloc ?_ _)); exact BK1429.out⟩
        have n4_ : Aside0 (Below w.heap.size w ((w17.setCell ⟨gb1429, 0, none⟩ (.int .i64 ((rd_T38 t1425 x11_1).f0))).setCell ⟨gb1429, 1, none⟩ (.int .i64 ((rd_T38 t1425 x11_1).f1)))) := ⟨by repeat (first | (with_reducible first | exact HB.out | apply below_alloc | apply pw_below_drewN | apply below_drew1 | refine below_set ?_ GE1423.out | refine below_set ?_ GE1424.out | refine below_set ?_ GE1429.out) | exact HB.out)⟩
        (try clear HO_9)
        (try clear BK1423)
        (try clear BK1424)
        (try clear BK1429)
        (try clear HB)
        generalize ((w17.setCell ⟨gb1429, 0, none⟩ (.int .i64 ((rd_T38 t1425 x11_1).f0))).setCell ⟨gb1429, 1, none⟩ (.int .i64 ((rd_T38 t1425 x11_1).f1))) = w21 at n0_ n1_ n2_ n3_ n4_ ⊢
        have HO_9 := n0_
        have BK1423 := n1_
        have BK1424 := n2_
        have BK1429 := n3_
        have HB := n4_
        clear n0_ n1_ n2_ n3_ n4_
        have n0_ := Aside0.mk (Kd.R_drew HO_9.out)
        have n1_ := Aside0.mk (blk_drew BK1423.out)
        have n2_ := Aside0.mk (blk_drew BK1424.out)
        have n3_ := Aside0.mk (blk_drew BK1429.out)
        have n4_ := Aside0.mk (below_drew1 HB.out)
        clear HO_9
        clear BK1423
        clear BK1424
        clear BK1429
        clear HB
        have HO_9 := n0_
        have BK1423 := n1_
        have BK1424 := n2_
        have BK1429 := n3_
        have HB := n4_
        clear n0_ n1_ n2_ n3_ n4_
        have p1433 : 0 ≤ (x11_1 : Int) := of_decide_eq_true (by first | (with_reducible assumption) | assumption)
        have q1433 : x11_1 < (l0_4.length : Int) := of_decide_eq_true (by first | (with_reducible assumption) | assumption)
        obtain ⟨ad1433, e1433, hx1433_0⟩ := Kd.at_int HR0_4.out x11_1 p1433 q1433
        have hw1433_0 := hx1433_0
        cases e1433
        replace hx1433_0 := (HB.out.cell (World.block_lt_of_cell? w _ hx1433_0)).trans hx1433_0
        replace p1433 := eq_true p1433
        replace q1433 := eq_true q1433
        refine start_ (n := 11) (S := fun w' => w'.cell? ⟨gb1423, 0, none⟩ = some (.int .i64 a0_0) ∧ w'.cell? ⟨gb1423, 1, none⟩ = some (.int .i64 a0_1) ∧ w'.cell? ⟨gb1423, 2, none⟩ = some (.int .i64 a0_2) ∧ w'.cell? ⟨gb1423, 3, none⟩ = some (.int .i64 a0_3) ∧ w'.cell? ⟨gb1423, 4, none⟩ = some (.slice (some ad1433) l0_4.length c0_4) ∧ w'.cell? ⟨gb1424, 0, none⟩ = some (.int .i64 a1_0) ∧ w'.cell? ⟨gb1424, 1, none⟩ = some (.int .i64 a1_1) ∧ w'.cell? ⟨gb1424, 2, none⟩ = some (.int .i64 a1_2) ∧ w'.cell? ⟨gb1424, 3, none⟩ = some (.int .i64 a1_3) ∧ w'.cell? ⟨gb1424, 4, none⟩ = some (.int .i64 a1_4) ∧ w'.cell? ⟨gb1424, 5, none⟩ = some (.int .i64 a1_5) ∧ w'.cell? ⟨gb1429, 0, none⟩ = some (.int .i64 ((rd_T38 t1425 x11_1).f0)) ∧ w'.cell? ⟨gb1429, 1, none⟩ = some (.int .i64 ((rd_T38 t1425 x11_1).f1)) ∧ w'.cell? (ad1433.add (x11_1).toNat) = some (.int .i64 (rd l0_4 x11_1))) (ds := []) #[false, false, false, false, false, false, false, false, false, false, false] (by kernel_rfl) rfl rfl ⟨(blk_cell BK1423.out 0).trans rfl, (blk_cell BK1423.out 1).trans rfl, (blk_cell BK1423.out 2).trans rfl, (blk_cell BK1423.out 3).trans rfl, (blk_cell BK1423.out 4).trans rfl, (blk_cell BK1424.out 0).trans rfl, (blk_cell BK1424.out 1).trans rfl, (blk_cell BK1424.out 2).trans rfl, (blk_cell BK1424.out 3).trans rfl, (blk_cell BK1424.out 4).trans rfl, (blk_cell BK1424.out 5).trans rfl, (blk_cell BK1429.out 0).trans rfl, (blk_cell BK1429.out 1).trans rfl, ((HB.out.cell (World.block_lt_of_cell? w _ hw1433_0)).trans hw1433_0)⟩ (fun hHeld => ?_); refine with_tabW impl_Pattern_keeps.tab4 impl_Pattern_keeps.bits4 (fun HT_ HW_ => ?_)
        generalize w21.drew = w22 at HO_9 BK1423 BK1424 BK1429 HB hx1433_0 hHeld ⊢
        refine pure_ (i := 5) (N := some 21) (v := ?_) (a' := ?_) #[false, false, false, false, false, true, false, false, false, false, false] rfl rfl (any_of HT_.out (by kernel_rfl)) (fun _ _ _ h => h) (Or.inl ⟨by rfl, ?_⟩) ?_ ?_
        rotate_left
        ·
         intro w'
         go_simp
         with_reducible rfl
        rotate_left
        ·
         simp only [Act.put, List.setIfInBounds_toArray, List.set_cons_zero, List.set_cons_succ, i64_w, i32_w]
         rfl
        refine pure_ (i := 7) (N := some 23) (v := ?_) (a' := ?_) #[false, false, false, false, false, true, false, true, false, false, false] rfl rfl (any_of HT_.out (by kernel_rfl)) (fun _ _ _ h => h) (Or.inl ⟨by rfl, ?_⟩) ?_ ?_
        rotate_left
        ·
         intro w'
         go_simp
         with_reducible rfl
        rotate_left
        ·
         simp only [Act.put, List.setIfInBounds_toArray, List.set_cons_zero, List.set_cons_succ, i64_w, i32_w]
         rfl
        refine take_ (i := 0) (N := some 16) (v := ?_) (a' := ?_) #[true, false, false, false, false, true, false, true, false, false, false] rfl rfl (take_ofW HT_.out HW_.out (by kernel_rfl)) (fun _ _ _ h => h) (Or.inl ⟨by rfl, ?_⟩) hHeld ?_ ?_
        rotate_left
        ·
         rintro w' ⟨s0, s1, s2, s3, s4, s5, s6, s7, s8, s9, s10, s11, s12, s13⟩
         go_simp
         with_reducible rfl
        rotate_left
        ·
         simp only [Act.put, List.setIfInBounds_toArray, List.set_cons_zero, List.set_cons_succ, i64_w, i32_w]
         rfl
        refine take_ (i := 1) (N := some 17) (v := ?_) (a' := ?_) #[true, true, false, false, false, true, false, true, false, false, false] rfl rfl (take_ofW HT_.out HW_.out (by kernel_rfl)) (fun _ _ _ h => h) (Or.inl ⟨by rfl, ?_⟩) hHeld ?_ ?_
        rotate_left
        ·
         rintro w' ⟨s0, s1, s2, s3, s4, s5, s6, s7, s8, s9, s10, s11, s12, s13⟩
         go_simp
         with_reducible rfl
        rotate_left
        ·
         simp only [Act.put, List.setIfInBounds_toArray, List.set_cons_zero, List.set_cons_succ, i64_w, i32_w]
         rfl
        refine take_ (i := 2) (N := some 18) (v := ?_) (a' := ?_) #[true, true, true, false, false, true, false, true, false, false, false] rfl rfl (take_ofW HT_.out HW_.out (by kernel_rfl)) (fun _ _ _ h => h) (Or.inl ⟨by rfl, ?_⟩) hHeld ?_ ?_
        rotate_left
        ·
         rintro w' ⟨s0, s1, s2, s3, s4, s5, s6, s7, s8, s9, s10, s11, s12, s13⟩
         go_simp
         with_reducible rfl
        rotate_left
        ·
         simp only [Act.put, List.setIfInBounds_toArray, List.set_cons_zero, List.set_cons_succ, i64_w, i32_w]
         rfl
        refine take_ (i := 6) (N := some 22) (v := ?_) (a' := ?_) #[true, true, true, false, false, true, true, true, false, false, false] rfl rfl (take_ofW HT_.out HW_.out (by kernel_rfl)) (fun _ _ _ h => h) (Or.inl ⟨by rfl, ?_⟩) hHeld ?_ ?_
        rotate_left
        ·
         rintro w' ⟨s0, s1, s2, s3, s4, s5, s6, s7, s8, s9, s10, s11, s12, s13⟩
         go_simp
         with_reducible rfl
        rotate_left
        ·
         simp only [Act.put, List.setIfInBounds_toArray, List.set_cons_zero, List.set_cons_succ, i64_w, i32_w]
         rfl
        refine pure_ (i := 8) (N := some 24) (v := ?_) (a' := ?_) #[true, true, true, false, false, true, true, true, true, false, false] rfl rfl (any_of HT_.out (by kernel_rfl)) (fun _ _ _ h => h) (Or.inl ⟨by rfl, ?_⟩) ?_ ?_
        rotate_left
        ·
         intro w'
         go_simp
         with_reducible rfl
        rotate_left
        ·
         simp only [Act.put, List.setIfInBounds_toArray, List.set_cons_zero, List.set_cons_succ, i64_w, i32_w]
         rfl
        refine take_ (i := 9) (N := some 25) (v := ?_) (a' := ?_) #[true, true, true, false, false, true, true, true, true, true, false] rfl rfl (take_ofW HT_.out HW_.out (by kernel_rfl)) (fun _ _ _ h => h) (Or.inl ⟨by rfl, ?_⟩) hHeld ?_ ?_
        rotate_left
        ·
         rintro w' ⟨s0, s1, s2, s3, s4, s5, s6, s7, s8, s9, s10, s11, s12, s13⟩
         go_simp
         with_reducible rfl
        rotate_left
        ·
         simp only [Act.put, List.setIfInBounds_toArray, List.set_cons_zero, List.set_cons_succ, i64_w, i32_w]
         rfl
        refine one_ (i := 3) (N := some 19) #[true, true, true, true, false, true, true, true, true, true, false] rfl rfl (one_of HT_.out (by kernel_rfl)) (by decide) (fun K hK => ?_)
        refine goes_ Try.func133 (by kernel_rfl) rfl #[.agg #[.int .i64 a1_0, .int .i64 a1_1, .int .i64 a1_2, .int .i64 a1_3, .int .i64 a1_4, .int .i64 a1_5], .agg #[.int .i64 ((rd_T38 t1425 x11_1).f0), .int .i64 ((rd_T38 t1425 x11_1).f1)]] (by rfl) rfl rfl (by (try simp only [List.map_toArray, List.map_cons, List.map_nil]); first | done | rfl | (simp only [List.length_drop, List.length_take]; rfl)) ?_
        with_reducible refine (impl_Motion_apply.calls a1_0 a1_1 a1_2 a1_3 a1_4 a1_5 ((rd_T38 t1425 x11_1).f0) ((rd_T38 t1425 x11_1).f1) t1430 t1431 _ A13.out).mono ?_
        rintro e w23 ⟨rfl, hb⟩
        refine ⟨_, rfl, ?_⟩
        have n0_ := Aside0.mk (Kd.R_below (by (with_reducible repeat (first | apply Kd.R_alloc | apply Kd.R_drewN | apply Kd.R_drew)); exact HO_9.out) hb)
        have n1_ := Aside0.mk (blk_below (g := gb1423) (o := .cells #[.int .i64 a0_0, .int .i64 a0_1, .int .i64 a0_2, .int .i64 a0_3, .slice (some ad1433) l0_4.length c0_4] 30 (0, 0)) (by (with_reducible repeat (first | refine blk_drewN ?_ _ | refine blk_drew ?_ | refine blk_alloc ?_ _)); exact BK1423.out) hb)
        have n2_ := Aside0.mk (blk_below (g := gb1424) (o := .cells #[.int .i64 a1_0, .int .i64 a1_1, .int .i64 a1_2, .int .i64 a1_3, .int .i64 a1_4, .int .i64 a1_5] 90 (0, 0)) (by (with_reducible repeat (first | refine blk_drewN ?_ _ | refine blk_drew ?_ | refine blk_alloc ?_ _)); exact BK1424.out) hb)
        have n3_ := Aside0.mk (blk_below (g := gb1429) (o := .cells #[.int .i64 ((rd_T38 t1425 x11_1).f0), .int .i64 ((rd_T38 t1425 x11_1).f1)] 38 (0, 0)) (by (with_reducible repeat (first | refine blk_drewN ?_ _ | refine blk_drew ?_ | refine blk_alloc ?_ _)); exact BK1429.out) hb)
        have n4_ := Aside0.mk (below_step (by repeat (first | (with_reducible first | exact HB.out | apply below_alloc | apply pw_below_drewN | apply below_drew1 | refine below_set ?_ GE1423.out | refine below_set ?_ GE1424.out | refine below_set ?_ GE1429.out) | exact HB.out)) hb)
        clear HO_9
        clear BK1423
        clear BK1424
        clear BK1429
        clear HB
        have HO_9 := n0_
        have BK1423 := n1_
        have BK1424 := n2_
        have BK1429 := n3_
        have HB := n4_
        clear n0_ n1_ n2_ n3_ n4_
        (try clear hb)
        (try clear hb2)
        (try clear hk)
        (try clear hi)
        refine hK.out _ _ ⟨(blk_cell BK1423.out 0).trans rfl, (blk_cell BK1423.out 1).trans rfl, (blk_cell BK1423.out 2).trans rfl, (blk_cell BK1423.out 3).trans rfl, (blk_cell BK1423.out 4).trans rfl, (blk_cell BK1424.out 0).trans rfl, (blk_cell BK1424.out 1).trans rfl, (blk_cell BK1424.out 2).trans rfl, (blk_cell BK1424.out 3).trans rfl, (blk_cell BK1424.out 4).trans rfl, (blk_cell BK1424.out 5).trans rfl, (blk_cell BK1429.out 0).trans rfl, (blk_cell BK1429.out 1).trans rfl, ((HB.out.cell (World.block_lt_of_cell? w _ hw1433_0)).trans hw1433_0)⟩ (fun hHeld => ?_)
        clear hK K
        refine norm_ (a' := ?_) ?_ ?_
        rotate_left
        ·
         show Act.put _ (some 19) _ = _
         simp only [Act.put, List.setIfInBounds_toArray, List.set_cons_zero, List.set_cons_succ, i64_w, i32_w]
         rfl
        refine one_ (i := 4) (N := some 20) #[true, true, true, true, true, true, true, true, true, true, false] rfl rfl (one_of HT_.out (by kernel_rfl)) (by decide) (fun K hK => ?_)
        refine goes_ Try.func68 (by kernel_rfl) rfl #[.agg #[.int .i64 a0_0, .int .i64 a0_1, .int .i64 a0_2, .int .i64 a0_3, .slice (some ad1433) l0_4.length c0_4], .agg #[.int .i64 t1430, .int .i64 t1431]] (by rfl) rfl rfl (by (try simp only [List.map_toArray, List.map_cons, List.map_nil]); first | done | rfl | (simp only [List.length_drop, List.length_take]; rfl)) ?_
        with_reducible refine (impl_Pattern_at.calls a0_0 a0_1 a0_2 a0_3 _ _ l0_4 t1430 t1431 t1432 _ ?side1 ?side2 A14.out).mono ?_
        (case side1 => repeat (first | exact (Kd.C_below HR0_4.out HB.out) | (with_reducible refine Kd.C_alloc ?_ _) | (with_reducible refine Kd.C_drewN ?_ _) | (with_reducible refine Kd.C_drew ?_)))
        (case side2 => exact HC0_4.out)
        rintro e w24 ⟨rfl, hb⟩
        refine ⟨_, rfl, ?_⟩
        have n0_ := Aside0.mk (Kd.R_below (by (with_reducible repeat (first | apply Kd.R_alloc | apply Kd.R_drewN | apply Kd.R_drew)); exact HO_9.out) hb)
        have n1_ := Aside0.mk (blk_below (g := gb1423) (o := .cells #[.int .i64 a0_0, .int .i64 a0_1, .int .i64 a0_2, .int .i64 a0_3, .slice (some ad1433) l0_4.length c0_4] 30 (0, 0)) (by (with_reducible repeat (first | refine blk_drewN ?_ _ | refine blk_drew ?_ | refine blk_alloc ?_ _)); exact BK1423.out) hb)
        have n2_ := Aside0.mk (blk_below (g := gb1424) (o := .cells #[.int .i64 a1_0, .int .i64 a1_1, .int .i64 a1_2, .int .i64 a1_3, .int .i64 a1_4, .int .i64 a1_5] 90 (0, 0)) (by (with_reducible repeat (first | refine blk_drewN ?_ _ | refine blk_drew ?_ | refine blk_alloc ?_ _)); exact BK1424.out) hb)
        have n3_ := Aside0.mk (blk_below (g := gb1429) (o := .cells #[.int .i64 ((rd_T38 t1425 x11_1).f0), .int .i64 ((rd_T38 t1425 x11_1).f1)] 38 (0, 0)) (by (with_reducible repeat (first | refine blk_drewN ?_ _ | refine blk_drew ?_ | refine blk_alloc ?_ _)); exact BK1429.out) hb)
        have n4_ := Aside0.mk (below_step (by repeat (first | (with_reducible first | exact HB.out | apply below_alloc | apply pw_below_drewN | apply below_drew1 | refine below_set ?_ GE1423.out | refine below_set ?_ GE1424.out | refine below_set ?_ GE1429.out) | exact HB.out)) hb)
        clear HO_9
        clear BK1423
        clear BK1424
        clear BK1429
        clear HB
        have HO_9 := n0_
        have BK1423 := n1_
        have BK1424 := n2_
        have BK1429 := n3_
        have HB := n4_
        clear n0_ n1_ n2_ n3_ n4_
        (try clear hb)
        (try clear hb2)
        (try clear hk)
        (try clear hi)
        refine hK.out _ _ ⟨(blk_cell BK1423.out 0).trans rfl, (blk_cell BK1423.out 1).trans rfl, (blk_cell BK1423.out 2).trans rfl, (blk_cell BK1423.out 3).trans rfl, (blk_cell BK1423.out 4).trans rfl, (blk_cell BK1424.out 0).trans rfl, (blk_cell BK1424.out 1).trans rfl, (blk_cell BK1424.out 2).trans rfl, (blk_cell BK1424.out 3).trans rfl, (blk_cell BK1424.out 4).trans rfl, (blk_cell BK1424.out 5).trans rfl, (blk_cell BK1429.out 0).trans rfl, (blk_cell BK1429.out 1).trans rfl, ((HB.out.cell (World.block_lt_of_cell? w _ hw1433_0)).trans hw1433_0)⟩ (fun hHeld => ?_)
        clear hK K
        refine norm_ (a' := ?_) ?_ ?_
        rotate_left
        ·
         show Act.put _ (some 20) _ = _
         simp only [Act.put, List.setIfInBounds_toArray, List.set_cons_zero, List.set_cons_succ, i64_w, i32_w]
         rfl
        refine pure_ (i := 10) (N := some 26) (v := ?_) (a' := ?_) #[true, true, true, true, true, true, true, true, true, true, true] rfl rfl (any_of HT_.out (by kernel_rfl)) (fun _ _ _ h => h) (Or.inl ⟨by rfl, ?_⟩) ?_ ?_
        rotate_left
        ·
         intro w'
         go_simp
         with_reducible rfl
        rotate_left
        ·
         simp only [Act.put, List.setIfInBounds_toArray, List.set_cons_zero, List.set_cons_succ, i64_w, i32_w]
         rfl
        refine done_ (done_of HT_.out (by kernel_rfl)) ?_
        try go_wp2
        go_roundg k1
        case measure => have := HK1.out; omega
        case rel => exact ⟨(wrap64 (x11_1 + 1)), (by first | rfl | (simp; done) | (simp [*]; done)), H', ⟨by have := HK1.out; omega⟩, ⟨by (with_reducible repeat (first | apply Kd.R_alloc | apply Kd.R_drewN | apply Kd.R_drew)); exact Kd.R_mono HO_9.out (fun _ hk => trivial)⟩, ⟨by (with_reducible repeat (first | refine blk_drewN ?_ _ | refine blk_drew ?_ | refine blk_alloc ?_ _)); exact BK1423.out⟩, ⟨by (with_reducible repeat (first | refine blk_drewN ?_ _ | refine blk_drew ?_ | refine blk_alloc ?_ _)); exact BK1424.out⟩, ⟨by repeat (first | (with_reducible first | exact HB.out | apply below_alloc | apply pw_below_drewN | apply below_drew1 | refine below_set ?_ GE1423.out | refine below_set ?_ GE1424.out | refine below_set ?_ GE1429.out) | exact HB.out)⟩⟩
       ·
        rw [if_neg c16] at H
        have c16b0 : (t1432 == (rd l0_4 x11_1)) = false := beq_eq_false_iff_ne.mpr c16
        have c16b1 : (t1432 != (rd l0_4 x11_1)) = true := bne_iff_ne.mpr c16
        obtain rfl := Option.some.inj H
        have p1428 : 0 ≤ (x11_1 : Int) := of_decide_eq_true (by first | (with_reducible assumption) | assumption)
        have q1428 : x11_1 < (t1425.length : Int) := of_decide_eq_true (by first | (with_reducible assumption) | assumption)
        obtain ⟨ad1428, e1428, hx1428_0, hx1428_1⟩ := at_T38 (Kd.R_reads' HO_9.out).2.2 x11_1 p1428 q1428
        cases e1428
        replace p1428 := eq_true p1428
        replace q1428 := eq_true q1428
        try go_wp2_with (first | ((with_reducible refine gate_dst (N := 6) rfl ?_); refine box_event ?hg (N := 6) ?hd (cs := #[.int .i64 0, .int .i64 0]) (t := 38) ?hr ?_; (case hd => rfl); (case hg => rfl); (case hr => first | (go_simp; done) | (go_simp; rfl)); intro gb1429 hg w25 hbox hb; have n0_ := Aside0.mk (Kd.R_below (Kd.R_elderB (by (with_reducible repeat (first | apply Kd.R_alloc | apply Kd.R_drewN | apply Kd.R_drew)); exact HO_9.out) gb1429 (Nat.le_of_eq hg.symm)) hb); have n1_ := Aside0.mk (blk_below (g := gb1423) (o := .cells #[.int .i64 a0_0, .int .i64 a0_1, .int .i64 a0_2, .int .i64 a0_3, .slice A0_4 l0_4.length c0_4] 30 (0, 0)) (by (with_reducible repeat (first | refine blk_drewN ?_ _ | refine blk_drew ?_ | refine blk_alloc ?_ _)); exact BK1423.out) hb); have n2_ := Aside0.mk (blk_below (g := gb1424) (o := .cells #[.int .i64 a1_0, .int .i64 a1_1, .int .i64 a1_2, .int .i64 a1_3, .int .i64 a1_4, .int .i64 a1_5] 90 (0, 0)) (by (with_reducible repeat (first | refine blk_drewN ?_ _ | refine blk_drew ?_ | refine blk_alloc ?_ _)); exact BK1424.out) hb); have n3_ := Aside0.mk (below_step (by repeat (first | (with_reducible first | exact HB.out | apply below_alloc | apply pw_below_drewN | apply below_drew1 | refine below_set ?_ GE1423.out | refine below_set ?_ GE1424.out) | exact HB.out)) hb); have n4_ := Aside0.mk (hbox); have n5_ := Aside0.mk ((by rw [hg]; exact (below_size (by repeat (first | (with_reducible first | exact HB.out | apply below_alloc | apply pw_below_drewN | apply below_drew1 | refine below_set ?_ GE1423.out | refine below_set ?_ GE1424.out) | exact HB.out))) : w.heap.size ≤ gb1429)); have n6_ := Aside0.mk ((by rw [hg]; exact (below_size (by repeat (first | (with_reducible first | exact HB.out | apply below_alloc | apply pw_below_drewN | apply below_drew1 | refine below_set ?_ GE1423.out | refine below_set ?_ GE1424.out) | exact HB.out))) : w.heap.size ≤ gb1429)); have n7_ := Aside0.mk ((by rw [hg]; exact Nat.ne_of_lt (blk_lt (g := gb1423) (o := .cells #[.int .i64 a0_0, .int .i64 a0_1, .int .i64 a0_2, .int .i64 a0_3, .slice A0_4 l0_4.length c0_4] 30 (0, 0)) (by (with_reducible repeat (first | refine blk_drewN ?_ _ | refine blk_drew ?_ | refine blk_alloc ?_ _)); exact BK1423.out)) : gb1423 ≠ gb1429)); have n8_ := Aside0.mk ((by rw [hg]; exact Nat.ne_of_gt (blk_lt (g := gb1423) (o := .cells #[.int .i64 a0_0, .int .i64 a0_1, .int .i64 a0_2, .int .i64 a0_3, .slice A0_4 l0_4.length c0_4] 30 (0, 0)) (by (with_reducible repeat (first | refine blk_drewN ?_ _ | refine blk_drew ?_ | refine blk_alloc ?_ _)); exact BK1423.out)) : gb1429 ≠ gb1423)); have n9_ := Aside0.mk ((by rw [hg]; exact Nat.ne_of_lt (blk_lt (g := gb1424) (o := .cells #[.int .i64 a1_0, .int .i64 a1_1, .int .i64 a1_2, .int .i64 a1_3, .int .i64 a1_4, .int .i64 a1_5] 90 (0, 0)) (by (with_reducible repeat (first | refine blk_drewN ?_ _ | refine blk_drew ?_ | refine blk_alloc ?_ _)); exact BK1424.out)) : gb1424 ≠ gb1429)); have n10_ := Aside0.mk ((by rw [hg]; exact Nat.ne_of_gt (blk_lt (g := gb1424) (o := .cells #[.int .i64 a1_0, .int .i64 a1_1, .int .i64 a1_2, .int .i64 a1_3, .int .i64 a1_4, .int .i64 a1_5] 90 (0, 0)) (by (with_reducible repeat (first | refine blk_drewN ?_ _ | refine blk_drew ?_ | refine blk_alloc ?_ _)); exact BK1424.out)) : gb1429 ≠ gb1424)); clear HO_9; clear BK1423; clear BK1424; clear HB; have HO_9 := n0_; have BK1423 := n1_; have BK1424 := n2_; have HB := n3_; have BK1429 := n4_; have GW1429 := n5_; have GE1429 := n6_; have NB1423_1429 := n7_; have NB1429_1423 := n8_; have NB1424_1429 := n9_; have NB1429_1424 := n10_; clear n0_ n1_ n2_ n3_ n4_ n5_ n6_ n7_ n8_ n9_ n10_; clear hb hbox hg; have hnb26 := NB1429_1423.out; have hnc26 := NB1423_1429.out; have hnb27 := NB1429_1424.out; have hnc27 := NB1424_1429.out; have hcz28_0 : w25.cell? ⟨gb1429, 0, none⟩ = some (.int .i64 0) := (blk_cell BK1429.out 0).trans rfl; have hcz28_1 : w25.cell? ⟨gb1429, 1, none⟩ = some (.int .i64 0) := (blk_cell BK1429.out 1).trans rfl; have hfz28_0 := blk_frozen BK1429.out 0; have hfz28_1 := blk_frozen BK1429.out 1))
        have n0_ : Aside0 (Kd.R k38 38 ((w25.setCell ⟨gb1429, 0, none⟩ (.int .i64 ((rd_T38 t1425 x11_1).f0))).setCell ⟨gb1429, 1, none⟩ (.int .i64 ((rd_T38 t1425 x11_1).f1))) w.heap.size (fun k_ => k_ ≠ gb1429) (.slice (some ad1428) t1425.length co9) t1425) := ⟨by (with_reducible repeat (first | apply Kd.R_alloc | apply Kd.R_drewN | apply Kd.R_drew)); exact Kd.R_mono (Kd.R_far (p := ⟨gb1429, 1, none⟩) (Kd.R_far (p := ⟨gb1429, 0, none⟩) (Kd.R_mono HO_9.out (fun k_ hk => (⟨hk, hk.2⟩ : _ ∧ k_ ≠ gb1429))) (fun _ hk => hk.2) (.int .i64 ((rd_T38 t1425 x11_1).f0))) (fun _ hk => hk.2) (.int .i64 ((rd_T38 t1425 x11_1).f1))) (fun _ hk => hk.1.2)⟩
        have n1_ : Aside0 (((w25.setCell ⟨gb1429, 0, none⟩ (.int .i64 ((rd_T38 t1425 x11_1).f0))).setCell ⟨gb1429, 1, none⟩ (.int .i64 ((rd_T38 t1425 x11_1).f1))).heap[gb1423]? = some (.cells #[.int .i64 a0_0, .int .i64 a0_1, .int .i64 a0_2, .int .i64 a0_3, .slice A0_4 l0_4.length c0_4] 30 (0, 0))) := ⟨by (with_reducible repeat (first | refine blk_drewN ?_ _ | refine blk_drew ?_ | refine blk_alloc ?_ _)); refine blk_far ?_ NB1423_1429.out _; (with_reducible repeat (first | refine blk_drewN ?_ _ | refine blk_drew ?_ | refine blk_alloc ?_ _)); refine blk_far ?_ NB1423_1429.out _; (with_reducible repeat (first | refine blk_drewN ?_ _ | refine blk_drew ?_ | refine blk_alloc ?_ _)); exact BK1423.out⟩
        have n2_ : Aside0 (((w25.setCell ⟨gb1429, 0, none⟩ (.int .i64 ((rd_T38 t1425 x11_1).f0))).setCell ⟨gb1429, 1, none⟩ (.int .i64 ((rd_T38 t1425 x11_1).f1))).heap[gb1424]? = some (.cells #[.int .i64 a1_0, .int .i64 a1_1, .int .i64 a1_2, .int .i64 a1_3, .int .i64 a1_4, .int .i64 a1_5] 90 (0, 0))) := ⟨by (with_reducible repeat (first | refine blk_drewN ?_ _ | refine blk_drew ?_ | refine blk_alloc ?_ _)); refine blk_far ?_ NB1424_1429.out _; (with_reducible repeat (first | refine blk_drewN ?_ _ | refine blk_drew ?_ | refine blk_alloc ?_ _)); refine blk_far ?_ NB1424_1429.out _; (with_reducible repeat (first | refine blk_drewN ?_ _ | refine blk_drew ?_ | refine blk_alloc ?_ _)); exact BK1424.out⟩
        have n3_ : Aside0 (((w25.setCell ⟨gb1429, 0, none⟩ (.int .i64 ((rd_T38 t1425 x11_1).f0))).setCell ⟨gb1429, 1, none⟩ (.int .i64 ((rd_T38 t1425 x11_1).f1))).heap[gb1429]? = some (.cells #[.int .i64 ((rd_T38 t1425 x11_1).f0), .int .i64 ((rd_T38 t1425 x11_1).f1)] 38 (0, 0))) := ⟨by (with_reducible repeat (first | refine blk_drewN ?_ _ | refine blk_drew ?_ | refine blk_alloc ?_ _)); refine blk_put (cs := #[.int .i64 ((rd_T38 t1425 x11_1).f0), .int .i64 0]) ?_ 1 _ rfl; (with_reducible repeat (first | refine blk_drewN ?_ _ | refine blk_drew ?_ | refine blk_alloc ?_ _)); refine blk_put (cs := #[.int .i64 0, .int .i64 0]) ?_ 0 _ rfl; (with_reducible repeat (first | refine blk_drewN ?_ _ | refine blk_drew ?_ | refine blk_alloc ?_ _)); exact BK1429.out⟩
        have n4_ : Aside0 (Below w.heap.size w ((w25.setCell ⟨gb1429, 0, none⟩ (.int .i64 ((rd_T38 t1425 x11_1).f0))).setCell ⟨gb1429, 1, none⟩ (.int .i64 ((rd_T38 t1425 x11_1).f1)))) := ⟨by repeat (first | (with_reducible first | exact HB.out | apply below_alloc | apply pw_below_drewN | apply below_drew1 | refine below_set ?_ GE1423.out | refine below_set ?_ GE1424.out | refine below_set ?_ GE1429.out) | exact HB.out)⟩
        (try clear HO_9)
        (try clear BK1423)
        (try clear BK1424)
        (try clear BK1429)
        (try clear HB)
        generalize ((w25.setCell ⟨gb1429, 0, none⟩ (.int .i64 ((rd_T38 t1425 x11_1).f0))).setCell ⟨gb1429, 1, none⟩ (.int .i64 ((rd_T38 t1425 x11_1).f1))) = w29 at n0_ n1_ n2_ n3_ n4_ ⊢
        have HO_9 := n0_
        have BK1423 := n1_
        have BK1424 := n2_
        have BK1429 := n3_
        have HB := n4_
        clear n0_ n1_ n2_ n3_ n4_
        have n0_ := Aside0.mk (Kd.R_drew HO_9.out)
        have n1_ := Aside0.mk (blk_drew BK1423.out)
        have n2_ := Aside0.mk (blk_drew BK1424.out)
        have n3_ := Aside0.mk (blk_drew BK1429.out)
        have n4_ := Aside0.mk (below_drew1 HB.out)
        clear HO_9
        clear BK1423
        clear BK1424
        clear BK1429
        clear HB
        have HO_9 := n0_
        have BK1423 := n1_
        have BK1424 := n2_
        have BK1429 := n3_
        have HB := n4_
        clear n0_ n1_ n2_ n3_ n4_
        have p1433 : 0 ≤ (x11_1 : Int) := of_decide_eq_true (by first | (with_reducible assumption) | assumption)
        have q1433 : x11_1 < (l0_4.length : Int) := of_decide_eq_true (by first | (with_reducible assumption) | assumption)
        obtain ⟨ad1433, e1433, hx1433_0⟩ := Kd.at_int HR0_4.out x11_1 p1433 q1433
        have hw1433_0 := hx1433_0
        cases e1433
        replace hx1433_0 := (HB.out.cell (World.block_lt_of_cell? w _ hx1433_0)).trans hx1433_0
        replace p1433 := eq_true p1433
        replace q1433 := eq_true q1433
        refine start_ (n := 11) (S := fun w' => w'.cell? ⟨gb1423, 0, none⟩ = some (.int .i64 a0_0) ∧ w'.cell? ⟨gb1423, 1, none⟩ = some (.int .i64 a0_1) ∧ w'.cell? ⟨gb1423, 2, none⟩ = some (.int .i64 a0_2) ∧ w'.cell? ⟨gb1423, 3, none⟩ = some (.int .i64 a0_3) ∧ w'.cell? ⟨gb1423, 4, none⟩ = some (.slice (some ad1433) l0_4.length c0_4) ∧ w'.cell? ⟨gb1424, 0, none⟩ = some (.int .i64 a1_0) ∧ w'.cell? ⟨gb1424, 1, none⟩ = some (.int .i64 a1_1) ∧ w'.cell? ⟨gb1424, 2, none⟩ = some (.int .i64 a1_2) ∧ w'.cell? ⟨gb1424, 3, none⟩ = some (.int .i64 a1_3) ∧ w'.cell? ⟨gb1424, 4, none⟩ = some (.int .i64 a1_4) ∧ w'.cell? ⟨gb1424, 5, none⟩ = some (.int .i64 a1_5) ∧ w'.cell? ⟨gb1429, 0, none⟩ = some (.int .i64 ((rd_T38 t1425 x11_1).f0)) ∧ w'.cell? ⟨gb1429, 1, none⟩ = some (.int .i64 ((rd_T38 t1425 x11_1).f1)) ∧ w'.cell? (ad1433.add (x11_1).toNat) = some (.int .i64 (rd l0_4 x11_1))) (ds := []) #[false, false, false, false, false, false, false, false, false, false, false] (by kernel_rfl) rfl rfl ⟨(blk_cell BK1423.out 0).trans rfl, (blk_cell BK1423.out 1).trans rfl, (blk_cell BK1423.out 2).trans rfl, (blk_cell BK1423.out 3).trans rfl, (blk_cell BK1423.out 4).trans rfl, (blk_cell BK1424.out 0).trans rfl, (blk_cell BK1424.out 1).trans rfl, (blk_cell BK1424.out 2).trans rfl, (blk_cell BK1424.out 3).trans rfl, (blk_cell BK1424.out 4).trans rfl, (blk_cell BK1424.out 5).trans rfl, (blk_cell BK1429.out 0).trans rfl, (blk_cell BK1429.out 1).trans rfl, ((HB.out.cell (World.block_lt_of_cell? w _ hw1433_0)).trans hw1433_0)⟩ (fun hHeld => ?_); refine with_tabW impl_Pattern_keeps.tab4 impl_Pattern_keeps.bits4 (fun HT_ HW_ => ?_)
        generalize w29.drew = w30 at HO_9 BK1423 BK1424 BK1429 HB hx1433_0 hHeld ⊢
        refine pure_ (i := 5) (N := some 21) (v := ?_) (a' := ?_) #[false, false, false, false, false, true, false, false, false, false, false] rfl rfl (any_of HT_.out (by kernel_rfl)) (fun _ _ _ h => h) (Or.inl ⟨by rfl, ?_⟩) ?_ ?_
        rotate_left
        ·
         intro w'
         go_simp
         with_reducible rfl
        rotate_left
        ·
         simp only [Act.put, List.setIfInBounds_toArray, List.set_cons_zero, List.set_cons_succ, i64_w, i32_w]
         rfl
        refine pure_ (i := 7) (N := some 23) (v := ?_) (a' := ?_) #[false, false, false, false, false, true, false, true, false, false, false] rfl rfl (any_of HT_.out (by kernel_rfl)) (fun _ _ _ h => h) (Or.inl ⟨by rfl, ?_⟩) ?_ ?_
        rotate_left
        ·
         intro w'
         go_simp
         with_reducible rfl
        rotate_left
        ·
         simp only [Act.put, List.setIfInBounds_toArray, List.set_cons_zero, List.set_cons_succ, i64_w, i32_w]
         rfl
        refine take_ (i := 0) (N := some 16) (v := ?_) (a' := ?_) #[true, false, false, false, false, true, false, true, false, false, false] rfl rfl (take_ofW HT_.out HW_.out (by kernel_rfl)) (fun _ _ _ h => h) (Or.inl ⟨by rfl, ?_⟩) hHeld ?_ ?_
        rotate_left
        ·
         rintro w' ⟨s0, s1, s2, s3, s4, s5, s6, s7, s8, s9, s10, s11, s12, s13⟩
         go_simp
         with_reducible rfl
        rotate_left
        ·
         simp only [Act.put, List.setIfInBounds_toArray, List.set_cons_zero, List.set_cons_succ, i64_w, i32_w]
         rfl
        refine take_ (i := 1) (N := some 17) (v := ?_) (a' := ?_) #[true, true, false, false, false, true, false, true, false, false, false] rfl rfl (take_ofW HT_.out HW_.out (by kernel_rfl)) (fun _ _ _ h => h) (Or.inl ⟨by rfl, ?_⟩) hHeld ?_ ?_
        rotate_left
        ·
         rintro w' ⟨s0, s1, s2, s3, s4, s5, s6, s7, s8, s9, s10, s11, s12, s13⟩
         go_simp
         with_reducible rfl
        rotate_left
        ·
         simp only [Act.put, List.setIfInBounds_toArray, List.set_cons_zero, List.set_cons_succ, i64_w, i32_w]
         rfl
        refine take_ (i := 2) (N := some 18) (v := ?_) (a' := ?_) #[true, true, true, false, false, true, false, true, false, false, false] rfl rfl (take_ofW HT_.out HW_.out (by kernel_rfl)) (fun _ _ _ h => h) (Or.inl ⟨by rfl, ?_⟩) hHeld ?_ ?_
        rotate_left
        ·
         rintro w' ⟨s0, s1, s2, s3, s4, s5, s6, s7, s8, s9, s10, s11, s12, s13⟩
         go_simp
         with_reducible rfl
        rotate_left
        ·
         simp only [Act.put, List.setIfInBounds_toArray, List.set_cons_zero, List.set_cons_succ, i64_w, i32_w]
         rfl
        refine take_ (i := 6) (N := some 22) (v := ?_) (a' := ?_) #[true, true, true, false, false, true, true, true, false, false, false] rfl rfl (take_ofW HT_.out HW_.out (by kernel_rfl)) (fun _ _ _ h => h) (Or.inl ⟨by rfl, ?_⟩) hHeld ?_ ?_
        rotate_left
        ·
         rintro w' ⟨s0, s1, s2, s3, s4, s5, s6, s7, s8, s9, s10, s11, s12, s13⟩
         go_simp
         with_reducible rfl
        rotate_left
        ·
         simp only [Act.put, List.setIfInBounds_toArray, List.set_cons_zero, List.set_cons_succ, i64_w, i32_w]
         rfl
        refine pure_ (i := 8) (N := some 24) (v := ?_) (a' := ?_) #[true, true, true, false, false, true, true, true, true, false, false] rfl rfl (any_of HT_.out (by kernel_rfl)) (fun _ _ _ h => h) (Or.inl ⟨by rfl, ?_⟩) ?_ ?_
        rotate_left
        ·
         intro w'
         go_simp
         with_reducible rfl
        rotate_left
        ·
         simp only [Act.put, List.setIfInBounds_toArray, List.set_cons_zero, List.set_cons_succ, i64_w, i32_w]
         rfl
        refine take_ (i := 9) (N := some 25) (v := ?_) (a' := ?_) #[true, true, true, false, false, true, true, true, true, true, false] rfl rfl (take_ofW HT_.out HW_.out (by kernel_rfl)) (fun _ _ _ h => h) (Or.inl ⟨by rfl, ?_⟩) hHeld ?_ ?_
        rotate_left
        ·
         rintro w' ⟨s0, s1, s2, s3, s4, s5, s6, s7, s8, s9, s10, s11, s12, s13⟩
         go_simp
         with_reducible rfl
        rotate_left
        ·
         simp only [Act.put, List.setIfInBounds_toArray, List.set_cons_zero, List.set_cons_succ, i64_w, i32_w]
         rfl
        refine one_ (i := 3) (N := some 19) #[true, true, true, true, false, true, true, true, true, true, false] rfl rfl (one_of HT_.out (by kernel_rfl)) (by decide) (fun K hK => ?_)
        refine goes_ Try.func133 (by kernel_rfl) rfl #[.agg #[.int .i64 a1_0, .int .i64 a1_1, .int .i64 a1_2, .int .i64 a1_3, .int .i64 a1_4, .int .i64 a1_5], .agg #[.int .i64 ((rd_T38 t1425 x11_1).f0), .int .i64 ((rd_T38 t1425 x11_1).f1)]] (by rfl) rfl rfl (by (try simp only [List.map_toArray, List.map_cons, List.map_nil]); first | done | rfl | (simp only [List.length_drop, List.length_take]; rfl)) ?_
        with_reducible refine (impl_Motion_apply.calls a1_0 a1_1 a1_2 a1_3 a1_4 a1_5 ((rd_T38 t1425 x11_1).f0) ((rd_T38 t1425 x11_1).f1) t1430 t1431 _ A13.out).mono ?_
        rintro e w31 ⟨rfl, hb⟩
        refine ⟨_, rfl, ?_⟩
        have n0_ := Aside0.mk (Kd.R_below (by (with_reducible repeat (first | apply Kd.R_alloc | apply Kd.R_drewN | apply Kd.R_drew)); exact HO_9.out) hb)
        have n1_ := Aside0.mk (blk_below (g := gb1423) (o := .cells #[.int .i64 a0_0, .int .i64 a0_1, .int .i64 a0_2, .int .i64 a0_3, .slice (some ad1433) l0_4.length c0_4] 30 (0, 0)) (by (with_reducible repeat (first | refine blk_drewN ?_ _ | refine blk_drew ?_ | refine blk_alloc ?_ _)); exact BK1423.out) hb)
        have n2_ := Aside0.mk (blk_below (g := gb1424) (o := .cells #[.int .i64 a1_0, .int .i64 a1_1, .int .i64 a1_2, .int .i64 a1_3, .int .i64 a1_4, .int .i64 a1_5] 90 (0, 0)) (by (with_reducible repeat (first | refine blk_drewN ?_ _ | refine blk_drew ?_ | refine blk_alloc ?_ _)); exact BK1424.out) hb)
        have n3_ := Aside0.mk (blk_below (g := gb1429) (o := .cells #[.int .i64 ((rd_T38 t1425 x11_1).f0), .int .i64 ((rd_T38 t1425 x11_1).f1)] 38 (0, 0)) (by (with_reducible repeat (first | refine blk_drewN ?_ _ | refine blk_drew ?_ | refine blk_alloc ?_ _)); exact BK1429.out) hb)
        have n4_ := Aside0.mk (below_step (by repeat (first | (with_reducible first | exact HB.out | apply below_alloc | apply pw_below_drewN | apply below_drew1 | refine below_set ?_ GE1423.out | refine below_set ?_ GE1424.out | refine below_set ?_ GE1429.out) | exact HB.out)) hb)
        clear HO_9
        clear BK1423
        clear BK1424
        clear BK1429
        clear HB
        have HO_9 := n0_
        have BK1423 := n1_
        have BK1424 := n2_
        have BK1429 := n3_
        have HB := n4_
        clear n0_ n1_ n2_ n3_ n4_
        (try clear hb)
        (try clear hb2)
        (try clear hk)
        (try clear hi)
        refine hK.out _ _ ⟨(blk_cell BK1423.out 0).trans rfl, (blk_cell BK1423.out 1).trans rfl, (blk_cell BK1423.out 2).trans rfl, (blk_cell BK1423.out 3).trans rfl, (blk_cell BK1423.out 4).trans rfl, (blk_cell BK1424.out 0).trans rfl, (blk_cell BK1424.out 1).trans rfl, (blk_cell BK1424.out 2).trans rfl, (blk_cell BK1424.out 3).trans rfl, (blk_cell BK1424.out 4).trans rfl, (blk_cell BK1424.out 5).trans rfl, (blk_cell BK1429.out 0).trans rfl, (blk_cell BK1429.out 1).trans rfl, ((HB.out.cell (World.block_lt_of_cell? w _ hw1433_0)).trans hw1433_0)⟩ (fun hHeld => ?_)
        clear hK K
        refine norm_ (a' := ?_) ?_ ?_
        rotate_left
        ·
         show Act.put _ (some 19) _ = _
         simp only [Act.put, List.setIfInBounds_toArray, List.set_cons_zero, List.set_cons_succ, i64_w, i32_w]
         rfl
        refine one_ (i := 4) (N := some 20) #[true, true, true, true, true, true, true, true, true, true, false] rfl rfl (one_of HT_.out (by kernel_rfl)) (by decide) (fun K hK => ?_)
        refine goes_ Try.func68 (by kernel_rfl) rfl #[.agg #[.int .i64 a0_0, .int .i64 a0_1, .int .i64 a0_2, .int .i64 a0_3, .slice (some ad1433) l0_4.length c0_4], .agg #[.int .i64 t1430, .int .i64 t1431]] (by rfl) rfl rfl (by (try simp only [List.map_toArray, List.map_cons, List.map_nil]); first | done | rfl | (simp only [List.length_drop, List.length_take]; rfl)) ?_
        with_reducible refine (impl_Pattern_at.calls a0_0 a0_1 a0_2 a0_3 _ _ l0_4 t1430 t1431 t1432 _ ?side1 ?side2 A14.out).mono ?_
        (case side1 => repeat (first | exact (Kd.C_below HR0_4.out HB.out) | (with_reducible refine Kd.C_alloc ?_ _) | (with_reducible refine Kd.C_drewN ?_ _) | (with_reducible refine Kd.C_drew ?_)))
        (case side2 => exact HC0_4.out)
        rintro e w32 ⟨rfl, hb⟩
        refine ⟨_, rfl, ?_⟩
        have n0_ := Aside0.mk (Kd.R_below (by (with_reducible repeat (first | apply Kd.R_alloc | apply Kd.R_drewN | apply Kd.R_drew)); exact HO_9.out) hb)
        have n1_ := Aside0.mk (blk_below (g := gb1423) (o := .cells #[.int .i64 a0_0, .int .i64 a0_1, .int .i64 a0_2, .int .i64 a0_3, .slice (some ad1433) l0_4.length c0_4] 30 (0, 0)) (by (with_reducible repeat (first | refine blk_drewN ?_ _ | refine blk_drew ?_ | refine blk_alloc ?_ _)); exact BK1423.out) hb)
        have n2_ := Aside0.mk (blk_below (g := gb1424) (o := .cells #[.int .i64 a1_0, .int .i64 a1_1, .int .i64 a1_2, .int .i64 a1_3, .int .i64 a1_4, .int .i64 a1_5] 90 (0, 0)) (by (with_reducible repeat (first | refine blk_drewN ?_ _ | refine blk_drew ?_ | refine blk_alloc ?_ _)); exact BK1424.out) hb)
        have n3_ := Aside0.mk (blk_below (g := gb1429) (o := .cells #[.int .i64 ((rd_T38 t1425 x11_1).f0), .int .i64 ((rd_T38 t1425 x11_1).f1)] 38 (0, 0)) (by (with_reducible repeat (first | refine blk_drewN ?_ _ | refine blk_drew ?_ | refine blk_alloc ?_ _)); exact BK1429.out) hb)
        have n4_ := Aside0.mk (below_step (by repeat (first | (with_reducible first | exact HB.out | apply below_alloc | apply pw_below_drewN | apply below_drew1 | refine below_set ?_ GE1423.out | refine below_set ?_ GE1424.out | refine below_set ?_ GE1429.out) | exact HB.out)) hb)
        clear HO_9
        clear BK1423
        clear BK1424
        clear BK1429
        clear HB
        have HO_9 := n0_
        have BK1423 := n1_
        have BK1424 := n2_
        have BK1429 := n3_
        have HB := n4_
        clear n0_ n1_ n2_ n3_ n4_
        (try clear hb)
        (try clear hb2)
        (try clear hk)
        (try clear hi)
        refine hK.out _ _ ⟨(blk_cell BK1423.out 0).trans rfl, (blk_cell BK1423.out 1).trans rfl, (blk_cell BK1423.out 2).trans rfl, (blk_cell BK1423.out 3).trans rfl, (blk_cell BK1423.out 4).trans rfl, (blk_cell BK1424.out 0).trans rfl, (blk_cell BK1424.out 1).trans rfl, (blk_cell BK1424.out 2).trans rfl, (blk_cell BK1424.out 3).trans rfl, (blk_cell BK1424.out 4).trans rfl, (blk_cell BK1424.out 5).trans rfl, (blk_cell BK1429.out 0).trans rfl, (blk_cell BK1429.out 1).trans rfl, ((HB.out.cell (World.block_lt_of_cell? w _ hw1433_0)).trans hw1433_0)⟩ (fun hHeld => ?_)
        clear hK K
        refine norm_ (a' := ?_) ?_ ?_
        rotate_left
        ·
         show Act.put _ (some 20) _ = _
         simp only [Act.put, List.setIfInBounds_toArray, List.set_cons_zero, List.set_cons_succ, i64_w, i32_w]
         rfl
        refine pure_ (i := 10) (N := some 26) (v := ?_) (a' := ?_) #[true, true, true, true, true, true, true, true, true, true, true] rfl rfl (any_of HT_.out (by kernel_rfl)) (fun _ _ _ h => h) (Or.inl ⟨by rfl, ?_⟩) ?_ ?_
        rotate_left
        ·
         intro w'
         go_simp
         with_reducible rfl
        rotate_left
        ·
         simp only [Act.put, List.setIfInBounds_toArray, List.set_cons_zero, List.set_cons_succ, i64_w, i32_w]
         rfl
        refine done_ (done_of HT_.out (by kernel_rfl)) ?_
        try go_wp2
        go_ret
        exact ⟨by first | rfl | (simp [errW_none, errW_some] <;> rfl) | (simp [*, errW_none, errW_some] <;> rfl), by repeat (first | (with_reducible first | exact HB.out | apply below_alloc | apply pw_below_drewN | apply below_drew1 | refine below_set ?_ GE1423.out | refine below_set ?_ GE1424.out | refine below_set ?_ GE1429.out) | exact HB.out)⟩
      ·
       rw [if_neg c15] at H
       exact absurd H (by simp)
     ·
      rw [if_neg c12] at H
      exact absurd H (by simp)
    ·
     rw [if_neg c11] at H
     exact absurd H (by simp)
   ·
    rw [if_neg c10] at H
    have c10b0 : decide (x11_1 < (t1425.length : Int)) = false := decide_eq_false c10
    clear c10
    obtain rfl := Option.some.inj H
    go_wp2
    go_ret
    exact ⟨by first | rfl | (simp [errW_none, errW_some] <;> rfl) | (simp [*, errW_none, errW_some] <;> rfl), by repeat (first | (with_reducible first | exact HB.out | apply below_alloc | apply pw_below_drewN | apply below_drew1 | refine below_set ?_ GE1423.out | refine below_set ?_ GE1424.out) | exact HB.out)⟩


/-! ### impl_Pattern_fullLattice: function 149 -/
set_option maxHeartbeats 8000000 in
set_option maxRecDepth 100000 in
theorem impl_Pattern_fullLattice.calls (k : Nat) (a0_0 : Int) (a0_1 : Int) (a0_2 : Int) (a0_3 : Int) (A0_4 : Option Addr) (c0_4 : Nat) (l0_4 : List Int) (r1 : Int) (r2 : Int) (r3 : Int) (w : World) (hr0_4 : Kd.C (Kd.int .i64) w A0_4 l0_4.length l0_4) (hc0_4 : l0_4.length ≤ c0_4) (h : impl_Pattern_fullLattice.f k a0_0 a0_1 a0_2 a0_3 l0_4 = some (r1, r2, r3)) :
  Calls Try.prog 149 #[.agg #[.int .i64 a0_0, .int .i64 a0_1, .int .i64 a0_2, .int .i64 a0_3, .slice A0_4 l0_4.length c0_4]] w fun e w' => e = .returned (.agg #[.int .i64 r1, .int .i64 r2, .int .i64 r3]) ∧ Below w.heap.size w w' := by
 have hu30 := Try.underlying30
 have hu28 := Try.underlying28
 have hu38 := Try.underlying38
 have hu90 := Try.underlying90
 have HR0_4 := Aside0.mk hr0_4
 have HC0_4 := Aside0.mk hc0_4
 clear hr0_4 hc0_4
 have HB := Aside0.mk (Below.refl w.heap.size w)
 have H : ((impl_Lattice_basis.f a0_1 a0_2 a0_3).bind fun bt1436 => ((impl_Lattice_cells.f k a0_1 a0_2 a0_3).bind fun t1445 => (impl_Pattern_fullLattice.l0 k (([(⟨bt1436.1, bt1436.2.1⟩ : S38), (⟨bt1436.2.2.1, bt1436.2.2.2⟩ : S38)] : List (S38))) t1445 (t1445.length : Int) 0 a0_0 a0_1 a0_2 a0_3 l0_4))) = some (r1, r2, r3) := h
 clear h
 replace H := Option.bind_eq_some_iff.mp H
 obtain ⟨⟨t1436, t1437, t1438, t1439⟩, A20, H⟩ := H
 replace H : ((impl_Lattice_cells.f k a0_1 a0_2 a0_3).bind fun t1445 => (impl_Pattern_fullLattice.l0 k (([(⟨t1436, t1437⟩ : S38), (⟨t1438, t1439⟩ : S38)] : List (S38))) t1445 (t1445.length : Int) 0 a0_0 a0_1 a0_2 a0_3 l0_4)) = some (r1, r2, r3) := H
 have A2 := Aside0.mk A20
 clear A20
 obtain ⟨y1442, hy1442⟩ : ∃ y_ : List (S38), y_ = (([(⟨t1436, t1437⟩ : S38), (⟨t1438, t1439⟩ : S38)] : List (S38))) := ⟨_, rfl⟩
 replace H : ((impl_Lattice_cells.f k a0_1 a0_2 a0_3).bind fun t1445 => (impl_Pattern_fullLattice.l0 k y1442 t1445 (t1445.length : Int) 0 a0_0 a0_1 a0_2 a0_3 l0_4)) = some (r1, r2, r3) := by first | (rw [hy1442]; with_reducible exact H) | (have H2_ := (Option.bind_some _ _).symm.trans H; rw [hy1442]; with_reducible exact H2_) | (have H2_ := (Option.bind_some _ _).symm.trans H; with_reducible exact H2_) | with_reducible exact H | (rw [hy1442]; exact H) | exact H
 have Ny1442 := Aside0.mk hy1442
 clear hy1442
 replace H := Option.bind_eq_some_iff.mp H
 obtain ⟨t1445, A30, H⟩ := H
 replace H : (impl_Pattern_fullLattice.l0 k y1442 t1445 (t1445.length : Int) 0 a0_0 a0_1 a0_2 a0_3 l0_4) = some (r1, r2, r3) := H
 have A3 := Aside0.mk A30
 clear A30
 have H' := Aside0.mk H
 clear H
 go_enter Try.func149, Try.ntmps149
 go_wp2_with (first | ((with_reducible refine gate_dst (N := 1) rfl ?_); refine box_event ?hg (N := 1) ?hd (cs := #[.int .i64 a0_0, .int .i64 a0_1, .int .i64 a0_2, .int .i64 a0_3, .slice A0_4 l0_4.length c0_4]) (t := 30) ?hr ?_; (case hd => rfl); (case hg => rfl); (case hr => first | (go_simp; done) | (go_simp; rfl)); intro gb1434 hg w4 hbox hb; have n0_ := Aside0.mk (below_step (by repeat (first | (with_reducible first | exact HB.out | apply below_alloc | apply pw_below_drewN | apply below_drew1) | exact HB.out)) hb); have n1_ := Aside0.mk (hbox); have n2_ := Aside0.mk ((by rw [hg]; exact (below_size (by repeat (first | (with_reducible first | exact HB.out | apply below_alloc | apply pw_below_drewN | apply below_drew1) | exact HB.out))) : w.heap.size ≤ gb1434)); have n3_ := Aside0.mk ((by rw [hg]; exact (below_size (by repeat (first | (with_reducible first | exact HB.out | apply below_alloc | apply pw_below_drewN | apply below_drew1) | exact HB.out))) : w.heap.size ≤ gb1434)); clear HB; have HB := n0_; have BK1434 := n1_; have GW1434 := n2_; have GE1434 := n3_; clear n0_ n1_ n2_ n3_; clear hb hbox hg) | ((with_reducible refine gate_dst (N := 2) rfl ?_); refine box_event ?hg (N := 2) ?hd (cs := #[.int .i64 0, .int .i64 0, .int .i64 0]) (t := 28) ?hr ?_; (case hd => rfl); (case hg => rfl); (case hr => first | (go_simp; done) | (go_simp; rfl)); intro gb1435 hg w5 hbox hb; have n0_ := Aside0.mk (blk_below (g := gb1434) (o := .cells #[.int .i64 a0_0, .int .i64 a0_1, .int .i64 a0_2, .int .i64 a0_3, .slice A0_4 l0_4.length c0_4] 30 (0, 0)) (by (with_reducible repeat (first | refine blk_drewN ?_ _ | refine blk_drew ?_ | refine blk_alloc ?_ _)); exact BK1434.out) hb); have n1_ := Aside0.mk (below_step (by repeat (first | (with_reducible first | exact HB.out | apply below_alloc | apply pw_below_drewN | apply below_drew1 | refine below_set ?_ GE1434.out) | exact HB.out)) hb); have n2_ := Aside0.mk (hbox); have n3_ := Aside0.mk ((by rw [hg]; exact (below_size (by repeat (first | (with_reducible first | exact HB.out | apply below_alloc | apply pw_below_drewN | apply below_drew1 | refine below_set ?_ GE1434.out) | exact HB.out))) : w.heap.size ≤ gb1435)); have n4_ := Aside0.mk ((by rw [hg]; exact (below_size (by repeat (first | (with_reducible first | exact HB.out | apply below_alloc | apply pw_below_drewN | apply below_drew1 | refine below_set ?_ GE1434.out) | exact HB.out))) : w.heap.size ≤ gb1435)); have n5_ := Aside0.mk ((by rw [hg]; exact Nat.ne_of_lt (blk_lt (g := gb1434) (o := .cells #[.int .i64 a0_0, .int .i64 a0_1, .int .i64 a0_2, .int .i64 a0_3, .slice A0_4 l0_4.length c0_4] 30 (0, 0)) (by (with_reducible repeat (first | refine blk_drewN ?_ _ | refine blk_drew ?_ | refine blk_alloc ?_ _)); exact BK1434.out)) : gb1434 ≠ gb1435)); have n6_ := Aside0.mk ((by rw [hg]; exact Nat.ne_of_gt (blk_lt (g := gb1434) (o := .cells #[.int .i64 a0_0, .int .i64 a0_1, .int .i64 a0_2, .int .i64 a0_3, .slice A0_4 l0_4.length c0_4] 30 (0, 0)) (by (with_reducible repeat (first | refine blk_drewN ?_ _ | refine blk_drew ?_ | refine blk_alloc ?_ _)); exact BK1434.out)) : gb1435 ≠ gb1434)); clear BK1434; clear HB; have BK1434 := n0_; have HB := n1_; have BK1435 := n2_; have GW1435 := n3_; have GE1435 := n4_; have NB1434_1435 := n5_; have NB1435_1434 := n6_; clear n0_ n1_ n2_ n3_ n4_ n5_ n6_; clear hb hbox hg; have hnb6 := NB1434_1435.out; have hnc6 := NB1435_1434.out; have hcz7_0 : w5.cell? ⟨gb1434, 0, none⟩ = some (.int .i64 a0_0) := (blk_cell BK1434.out 0).trans rfl; have hcz7_1 : w5.cell? ⟨gb1434, 1, none⟩ = some (.int .i64 a0_1) := (blk_cell BK1434.out 1).trans rfl; have hcz7_2 : w5.cell? ⟨gb1434, 2, none⟩ = some (.int .i64 a0_2) := (blk_cell BK1434.out 2).trans rfl; have hcz7_3 : w5.cell? ⟨gb1434, 3, none⟩ = some (.int .i64 a0_3) := (blk_cell BK1434.out 3).trans rfl; have hcz7_4 : w5.cell? ⟨gb1434, 4, none⟩ = some (.slice A0_4 l0_4.length c0_4) := (blk_cell BK1434.out 4).trans rfl; have hfz7_0 := blk_frozen BK1434.out 0; have hfz7_1 := blk_frozen BK1434.out 1; have hfz7_2 := blk_frozen BK1434.out 2; have hfz7_3 := blk_frozen BK1434.out 3; have hfz7_4 := blk_frozen BK1434.out 4) | ((with_reducible refine gate_callee (f := 129) rfl ?_); refine goesL_ (some 11) rfl rfl Try.func129 (by kernel_rfl) rfl #[.agg #[.int .i64 a0_1, .int .i64 a0_2, .int .i64 a0_3]] rfl (by (try simp only [List.map_toArray, List.map_cons, List.map_nil]); first | done | rfl | (simp only [List.length_drop, List.length_take]; rfl)) ?_; (with_reducible refine (impl_Lattice_basis.calls a0_1 a0_2 a0_3 t1436 t1437 t1438 t1439 _ A2.out).mono ?_); rintro e w8 ⟨rfl, hb⟩; refine ⟨_, rfl, ?_⟩; have n0_ := Aside0.mk (blk_below (g := gb1434) (o := .cells #[.int .i64 a0_0, .int .i64 a0_1, .int .i64 a0_2, .int .i64 a0_3, .slice A0_4 l0_4.length c0_4] 30 (0, 0)) (by (with_reducible repeat (first | refine blk_drewN ?_ _ | refine blk_drew ?_ | refine blk_alloc ?_ _)); exact BK1434.out) hb); have n1_ := Aside0.mk (blk_below (g := gb1435) (o := .cells #[.int .i64 0, .int .i64 0, .int .i64 0] 28 (0, 0)) (by (with_reducible repeat (first | refine blk_drewN ?_ _ | refine blk_drew ?_ | refine blk_alloc ?_ _)); exact BK1435.out) hb); have n2_ := Aside0.mk (below_step (by repeat (first | (with_reducible first | exact HB.out | apply below_alloc | apply pw_below_drewN | apply below_drew1 | refine below_set ?_ GE1434.out | refine below_set ?_ GE1435.out) | exact HB.out)) hb); clear BK1434; clear BK1435; clear HB; have BK1434 := n0_; have BK1435 := n1_; have HB := n2_; clear n0_ n1_ n2_; (try clear hb); (try clear hb2); (try clear hk); (try clear hi)) | ((with_reducible refine gate_dst (N := 3) rfl ?_); refine box_event ?hg (N := 3) ?hd (cs := #[.int .i64 0, .int .i64 0]) (t := 38) ?hr ?_; (case hd => rfl); (case hg => rfl); (case hr => first | (go_simp; done) | (go_simp; rfl)); intro gb1440 hg w9 hbox hb; have n0_ := Aside0.mk (blk_below (g := gb1434) (o := .cells #[.int .i64 a0_0, .int .i64 a0_1, .int .i64 a0_2, .int .i64 a0_3, .slice A0_4 l0_4.length c0_4] 30 (0, 0)) (by (with_reducible repeat (first | refine blk_drewN ?_ _ | refine blk_drew ?_ | refine blk_alloc ?_ _)); exact BK1434.out) hb); have n1_ := Aside0.mk (blk_below (g := gb1435) (o := .cells #[.int .i64 0, .int .i64 0, .int .i64 0] 28 (0, 0)) (by (with_reducible repeat (first | refine blk_drewN ?_ _ | refine blk_drew ?_ | refine blk_alloc ?_ _)); exact BK1435.out) hb); have n2_ := Aside0.mk (below_step (by repeat (first | (with_reducible first | exact HB.out | apply below_alloc | apply pw_below_drewN | apply below_drew1 | refine below_set ?_ GE1434.out | refine below_set ?_ GE1435.out) | exact HB.out)) hb); have n3_ := Aside0.mk (hbox); have n4_ := Aside0.mk ((by rw [hg]; exact (below_size (by repeat (first | (with_reducible first | exact HB.out | apply below_alloc | apply pw_below_drewN | apply below_drew1 | refine below_set ?_ GE1434.out | refine below_set ?_ GE1435.out) | exact HB.out))) : w.heap.size ≤ gb1440)); have n5_ := Aside0.mk ((by rw [hg]; exact (below_size (by repeat (first | (with_reducible first | exact HB.out | apply below_alloc | apply pw_below_drewN | apply below_drew1 | refine below_set ?_ GE1434.out | refine below_set ?_ GE1435.out) | exact HB.out))) : w.heap.size ≤ gb1440)); have n6_ := Aside0.mk ((by rw [hg]; exact Nat.ne_of_lt (blk_lt (g := gb1434) (o := .cells #[.int .i64 a0_0, .int .i64 a0_1, .int .i64 a0_2, .int .i64 a0_3, .slice A0_4 l0_4.length c0_4] 30 (0, 0)) (by (with_reducible repeat (first | refine blk_drewN ?_ _ | refine blk_drew ?_ | refine blk_alloc ?_ _)); exact BK1434.out)) : gb1434 ≠ gb1440)); have n7_ := Aside0.mk ((by rw [hg]; exact Nat.ne_of_gt (blk_lt (g := gb1434) (o := .cells #[.int .i64 a0_0, .int .i64 a0_1, .int .i64 a0_2, .int .i64 a0_3, .slice A0_4 l0_4.length c0_4] 30 (0, 0)) (by (with_reducible repeat (first | refine blk_drewN ?_ _ | refine blk_drew ?_ | refine blk_alloc ?_ _)); exact BK1434.out)) : gb1440 ≠ gb1434)); have n8_ := Aside0.mk ((by rw [hg]; exact Nat.ne_of_lt (blk_lt (g := gb1435) (o := .cells #[.int .i64 0, .int .i64 0, .int .i64 0] 28 (0, 0)) (by (with_reducible repeat (first | refine blk_drewN ?_ _ | refine blk_drew ?_ | refine blk_alloc ?_ _)); exact BK1435.out)) : gb1435 ≠ gb1440)); have n9_ := Aside0.mk ((by rw [hg]; exact Nat.ne_of_gt (blk_lt (g := gb1435) (o := .cells #[.int .i64 0, .int .i64 0, .int .i64 0] 28 (0, 0)) (by (with_reducible repeat (first | refine blk_drewN ?_ _ | refine blk_drew ?_ | refine blk_alloc ?_ _)); exact BK1435.out)) : gb1440 ≠ gb1435)); clear BK1434; clear BK1435; clear HB; have BK1434 := n0_; have BK1435 := n1_; have HB := n2_; have BK1440 := n3_; have GW1440 := n4_; have GE1440 := n5_; have NB1434_1440 := n6_; have NB1440_1434 := n7_; have NB1435_1440 := n8_; have NB1440_1435 := n9_; clear n0_ n1_ n2_ n3_ n4_ n5_ n6_ n7_ n8_ n9_; clear hb hbox hg) | ((with_reducible refine gate_dst (N := 4) rfl ?_); refine box_event ?hg (N := 4) ?hd (cs := #[.int .i64 0, .int .i64 0]) (t := 38) ?hr ?_; (case hd => rfl); (case hg => rfl); (case hr => first | (go_simp; done) | (go_simp; rfl)); intro gb1441 hg w10 hbox hb; have n0_ := Aside0.mk (blk_below (g := gb1434) (o := .cells #[.int .i64 a0_0, .int .i64 a0_1, .int .i64 a0_2, .int .i64 a0_3, .slice A0_4 l0_4.length c0_4] 30 (0, 0)) (by (with_reducible repeat (first | refine blk_drewN ?_ _ | refine blk_drew ?_ | refine blk_alloc ?_ _)); exact BK1434.out) hb); have n1_ := Aside0.mk (blk_below (g := gb1435) (o := .cells #[.int .i64 0, .int .i64 0, .int .i64 0] 28 (0, 0)) (by (with_reducible repeat (first | refine blk_drewN ?_ _ | refine blk_drew ?_ | refine blk_alloc ?_ _)); exact BK1435.out) hb); have n2_ := Aside0.mk (blk_below (g := gb1440) (o := .cells #[.int .i64 0, .int .i64 0] 38 (0, 0)) (by (with_reducible repeat (first | refine blk_drewN ?_ _ | refine blk_drew ?_ | refine blk_alloc ?_ _)); exact BK1440.out) hb); have n3_ := Aside0.mk (below_step (by repeat (first | (with_reducible first | exact HB.out | apply below_alloc | apply pw_below_drewN | apply below_drew1 | refine below_set ?_ GE1434.out | refine below_set ?_ GE1435.out | refine below_set ?_ GE1440.out) | exact HB.out)) hb); have n4_ := Aside0.mk (hbox); have n5_ := Aside0.mk ((by rw [hg]; exact (below_size (by repeat (first | (with_reducible first | exact HB.out | apply below_alloc | apply pw_below_drewN | apply below_drew1 | refine below_set ?_ GE1434.out | refine below_set ?_ GE1435.out | refine below_set ?_ GE1440.out) | exact HB.out))) : w.heap.size ≤ gb1441)); have n6_ := Aside0.mk ((by rw [hg]; exact (below_size (by repeat (first | (with_reducible first | exact HB.out | apply below_alloc | apply pw_below_drewN | apply below_drew1 | refine below_set ?_ GE1434.out | refine below_set ?_ GE1435.out | refine below_set ?_ GE1440.out) | exact HB.out))) : w.heap.size ≤ gb1441)); have n7_ := Aside0.mk ((by rw [hg]; exact Nat.ne_of_lt (blk_lt (g := gb1434) (o := .cells #[.int .i64 a0_0, .int .i64 a0_1, .int .i64 a0_2, .int .i64 a0_3, .slice A0_4 l0_4.length c0_4] 30 (0, 0)) (by (with_reducible repeat (first | refine blk_drewN ?_ _ | refine blk_drew ?_ | refine blk_alloc ?_ _)); exact BK1434.out)) : gb1434 ≠ gb1441)); have n8_ := Aside0.mk ((by rw [hg]; exact Nat.ne_of_gt (blk_lt (g := gb1434) (o := .cells #[.int .i64 a0_0, .int .i64 a0_1, .int .i64 a0_2, .int .i64 a0_3, .slice A0_4 l0_4.length c0_4] 30 (0, 0)) (by (with_reducible repeat (first | refine blk_drewN ?_ _ | refine blk_drew ?_ | refine blk_alloc ?_ _)); exact BK1434.out)) : gb1441 ≠ gb1434)); have n9_ := Aside0.mk ((by rw [hg]; exact Nat.ne_of_lt (blk_lt (g := gb1435) (o := .cells #[.int .i64 0, .int .i64 0, .int .i64 0] 28 (0, 0)) (by (with_reducible repeat (first | refine blk_drewN ?_ _ | refine blk_drew ?_ | refine blk_alloc ?_ _)); exact BK1435.out)) : gb1435 ≠ gb1441)); have n10_ := Aside0.mk ((by rw [hg]; exact Nat.ne_of_gt (blk_lt (g := gb1435) (o := .cells #[.int .i64 0, .int .i64 0, .int .i64 0] 28 (0, 0)) (by (with_reducible repeat (first | refine blk_drewN ?_ _ | refine blk_drew ?_ | refine blk_alloc ?_ _)); exact BK1435.out)) : gb1441 ≠ gb1435)); have n11_ := Aside0.mk ((by rw [hg]; exact Nat.ne_of_lt (blk_lt (g := gb1440) (o := .cells #[.int .i64 0, .int .i64 0] 38 (0, 0)) (by (with_reducible repeat (first | refine blk_drewN ?_ _ | refine blk_drew ?_ | refine blk_alloc ?_ _)); exact BK1440.out)) : gb1440 ≠ gb1441)); have n12_ := Aside0.mk ((by rw [hg]; exact Nat.ne_of_gt (blk_lt (g := gb1440) (o := .cells #[.int .i64 0, .int .i64 0] 38 (0, 0)) (by (with_reducible repeat (first | refine blk_drewN ?_ _ | refine blk_drew ?_ | refine blk_alloc ?_ _)); exact BK1440.out)) : gb1441 ≠ gb1440)); clear BK1434; clear BK1435; clear BK1440; clear HB; have BK1434 := n0_; have BK1435 := n1_; have BK1440 := n2_; have HB := n3_; have BK1441 := n4_; have GW1441 := n5_; have GE1441 := n6_; have NB1434_1441 := n7_; have NB1441_1434 := n8_; have NB1435_1441 := n9_; have NB1441_1435 := n10_; have NB1440_1441 := n11_; have NB1441_1440 := n12_; clear n0_ n1_ n2_ n3_ n4_ n5_ n6_ n7_ n8_ n9_ n10_ n11_ n12_; clear hb hbox hg; have hnb11 := NB1440_1434.out; have hnc11 := NB1434_1440.out; have hnb12 := NB1440_1435.out; have hnc12 := NB1435_1440.out; have hnb13 := NB1440_1441.out; have hnc13 := NB1441_1440.out; have hcz14_0 : w10.cell? ⟨gb1440, 0, none⟩ = some (.int .i64 0) := (blk_cell BK1440.out 0).trans rfl; have hcz14_1 : w10.cell? ⟨gb1440, 1, none⟩ = some (.int .i64 0) := (blk_cell BK1440.out 1).trans rfl; have hfz14_0 := blk_frozen BK1440.out 0; have hfz14_1 := blk_frozen BK1440.out 1; have hnb15 := NB1441_1434.out; have hnc15 := NB1434_1441.out; have hnb16 := NB1441_1435.out; have hnc16 := NB1435_1441.out; have hcz17_0 : w10.cell? ⟨gb1441, 0, none⟩ = some (.int .i64 0) := (blk_cell BK1441.out 0).trans rfl; have hcz17_1 : w10.cell? ⟨gb1441, 1, none⟩ = some (.int .i64 0) := (blk_cell BK1441.out 1).trans rfl; have hfz17_0 := blk_frozen BK1441.out 0; have hfz17_1 := blk_frozen BK1441.out 1) | ((with_reducible refine gate_dst (N := 16) rfl ?_); refine Kd.R_lit k38 _ 38 ?hg (N := 16) ?hd (xs := ([(⟨t1436, t1437⟩ : S38), (⟨t1438, t1439⟩ : S38)] : List (S38))) (inner := [.int .i64 t1436, .int .i64 t1437, .int .i64 t1438, .int .i64 t1439]) (ok := fun _ => True) (okp := fun _ => True) ?hr ?hp (fun _ hk => hk) trivial (Below.refl _ _) (Nat.le_refl _) (by simp) ?_; (case hd => rfl); (case hg => rfl); (case hr => first | (go_simp; done) | (go_simp; rfl)); (case hp => exact (Reps.c2 (show Kd.M k38 _ _ _ (⟨t1436, t1437⟩ : S38) [.int .i64 t1436, .int .i64 t1437] from (k38_mkM _ _ _ (⟨t1436, t1437⟩ : S38) )) (Reps.c2 (show Kd.M k38 _ _ _ (⟨t1438, t1439⟩ : S38) [.int .i64 t1438, .int .i64 t1439] from (k38_mkM _ _ _ (⟨t1438, t1439⟩ : S38) )) (Reps.none _ _)))); intro v1443 w18 ho19 hb hg_ hnew_; clear hg_ hnew_; (first | rw [← Ny1442.out] at ho19 | (simp only [Int.reduceToNat] at ho19; rw [← Ny1442.out] at ho19)); have n0_ := Aside0.mk (Kd.R_lower (Kd.R_newB (Kd.R_newB ho19 (g := gb1440) (o := .cells #[.int .i64 t1436, .int .i64 t1437] 38 (0, 0)) (by (with_reducible repeat (first | refine blk_drewN ?_ _ | refine blk_drew ?_ | refine blk_alloc ?_ _)); refine blk_far ?_ NB1440_1441.out _; (with_reducible repeat (first | refine blk_drewN ?_ _ | refine blk_drew ?_ | refine blk_alloc ?_ _)); refine blk_far ?_ NB1440_1441.out _; (with_reducible repeat (first | refine blk_drewN ?_ _ | refine blk_drew ?_ | refine blk_alloc ?_ _)); refine blk_put (cs := #[.int .i64 t1436, .int .i64 0]) ?_ 1 _ rfl; (with_reducible repeat (first | refine blk_drewN ?_ _ | refine blk_drew ?_ | refine blk_alloc ?_ _)); refine blk_put (cs := #[.int .i64 0, .int .i64 0]) ?_ 0 _ rfl; (with_reducible repeat (first | refine blk_drewN ?_ _ | refine blk_drew ?_ | refine blk_alloc ?_ _)); exact BK1440.out)) (g := gb1441) (o := .cells #[.int .i64 t1438, .int .i64 t1439] 38 (0, 0)) (by (with_reducible repeat (first | refine blk_drewN ?_ _ | refine blk_drew ?_ | refine blk_alloc ?_ _)); refine blk_put (cs := #[.int .i64 t1438, .int .i64 0]) ?_ 1 _ rfl; (with_reducible repeat (first | refine blk_drewN ?_ _ | refine blk_drew ?_ | refine blk_alloc ?_ _)); refine blk_put (cs := #[.int .i64 0, .int .i64 0]) ?_ 0 _ rfl; (with_reducible repeat (first | refine blk_drewN ?_ _ | refine blk_drew ?_ | refine blk_alloc ?_ _)); refine blk_far ?_ NB1441_1440.out _; (with_reducible repeat (first | refine blk_drewN ?_ _ | refine blk_drew ?_ | refine blk_alloc ?_ _)); refine blk_far ?_ NB1441_1440.out _; (with_reducible repeat (first | refine blk_drewN ?_ _ | refine blk_drew ?_ | refine blk_alloc ?_ _)); exact BK1441.out)) (below_size (by repeat (first | (with_reducible first | exact HB.out | apply below_alloc | apply pw_below_drewN | apply below_drew1 | refine below_set ?_ GE1434.out | refine below_set ?_ GE1435.out | refine below_set ?_ GE1440.out | refine below_set ?_ GE1441.out) | exact HB.out)))); have n1_ := Aside0.mk (blk_below (g := gb1434) (o := .cells #[.int .i64 a0_0, .int .i64 a0_1, .int .i64 a0_2, .int .i64 a0_3, .slice A0_4 l0_4.length c0_4] 30 (0, 0)) (by (with_reducible repeat (first | refine blk_drewN ?_ _ | refine blk_drew ?_ | refine blk_alloc ?_ _)); refine blk_far ?_ NB1434_1441.out _; (with_reducible repeat (first | refine blk_drewN ?_ _ | refine blk_drew ?_ | refine blk_alloc ?_ _)); refine blk_far ?_ NB1434_1441.out _; (with_reducible repeat (first | refine blk_drewN ?_ _ | refine blk_drew ?_ | refine blk_alloc ?_ _)); refine blk_far ?_ NB1434_1440.out _; (with_reducible repeat (first | refine blk_drewN ?_ _ | refine blk_drew ?_ | refine blk_alloc ?_ _)); refine blk_far ?_ NB1434_1440.out _; (with_reducible repeat (first | refine blk_drewN ?_ _ | refine blk_drew ?_ | refine blk_alloc ?_ _)); exact BK1434.out) hb); have n2_ := Aside0.mk (blk_below (g := gb1435) (o := .cells #[.int .i64 0, .int .i64 0, .int .i64 0] 28 (0, 0)) (by (with_reducible repeat (first | refine blk_drewN ?_ _ | refine blk_drew ?_ | refine blk_alloc ?_ _)); refine blk_far ?_ NB1435_1441.out _; (with_reducible repeat (first | refine blk_drewN ?_ _ | refine blk_drew ?_ | refine blk_alloc ?_ _)); refine blk_far ?_ NB1435_1441.out _; (with_reducible repeat (first | refine blk_drewN ?_ _ | refine blk_drew ?_ | refine blk_alloc ?_ _)); refine blk_far ?_ NB1435_1440.out _; (with_reducible repeat (first | refine blk_drewN ?_ _ | refine blk_drew ?_ | refine blk_alloc ?_ _)); refine blk_far ?_ NB1435_1440.out _; (with_reducible repeat (first | refine blk_drewN ?_ _ | refine blk_drew ?_ | refine blk_alloc ?_ _)); exact BK1435.out) hb); have n3_ := Aside0.mk (blk_below (g := gb1440) (o := .cells #[.int .i64 t1436, .int .i64 t1437] 38 (0, 0)) (by (with_reducible repeat (first | refine blk_drewN ?_ _ | refine blk_drew ?_ | refine blk_alloc ?_ _)); refine blk_far ?_ NB1440_1441.out _; (with_reducible repeat (first | refine blk_drewN ?_ _ | refine blk_drew ?_ | refine blk_alloc ?_ _)); refine blk_far ?_ NB1440_1441.out _; (with_reducible repeat (first | refine blk_drewN ?_ _ | refine blk_drew ?_ | refine blk_alloc ?_ _)); refine blk_put (cs := #[.int .i64 t1436, .int .i64 0]) ?_ 1 _ rfl; (with_reducible repeat (first | refine blk_drewN ?_ _ | refine blk_drew ?_ | refine blk_alloc ?_ _)); refine blk_put (cs := #[.int .i64 0, .int .i64 0]) ?_ 0 _ rfl; (with_reducible repeat (first | refine blk_drewN ?_ _ | refine blk_drew ?_ | refine blk_alloc ?_ _)); exact BK1440.out) hb); have n4_ := Aside0.mk (blk_below (g := gb1441) (o := .cells #[.int .i64 t1438, .int .i64 t1439] 38 (0, 0)) (by (with_reducible repeat (first | refine blk_drewN ?_ _ | refine blk_drew ?_ | refine blk_alloc ?_ _)); refine blk_put (cs := #[.int .i64 t1438, .int .i64 0]) ?_ 1 _ rfl; (with_reducible repeat (first | refine blk_drewN ?_ _ | refine blk_drew ?_ | refine blk_alloc ?_ _)); refine blk_put (cs := #[.int .i64 0, .int .i64 0]) ?_ 0 _ rfl; (with_reducible repeat (first | refine blk_drewN ?_ _ | refine blk_drew ?_ | refine blk_alloc ?_ _)); refine blk_far ?_ NB1441_1440.out _; (with_reducible repeat (first | refine blk_drewN ?_ _ | refine blk_drew ?_ | refine blk_alloc ?_ _)); refine blk_far ?_ NB1441_1440.out _; (with_reducible repeat (first | refine blk_drewN ?_ _ | refine blk_drew ?_ | refine blk_alloc ?_ _)); exact BK1441.out) hb); have n5_ := Aside0.mk (below_step (by repeat (first | (with_reducible first | exact HB.out | apply below_alloc | apply pw_below_drewN | apply below_drew1 | refine below_set ?_ GE1434.out | refine below_set ?_ GE1435.out | refine below_set ?_ GE1440.out | refine below_set ?_ GE1441.out) | exact HB.out)) hb); clear BK1434; clear BK1435; clear BK1440; clear BK1441; clear HB; have HO1444 := n0_; have BK1434 := n1_; have BK1435 := n2_; have BK1440 := n3_; have BK1441 := n4_; have HB := n5_; clear n0_ n1_ n2_ n3_ n4_ n5_; clear hb ho19; have hcz20_0 : w18.cell? ⟨gb1434, 0, none⟩ = some (.int .i64 a0_0) := (blk_cell BK1434.out 0).trans rfl; have hcz20_1 : w18.cell? ⟨gb1434, 1, none⟩ = some (.int .i64 a0_1) := (blk_cell BK1434.out 1).trans rfl; have hcz20_2 : w18.cell? ⟨gb1434, 2, none⟩ = some (.int .i64 a0_2) := (blk_cell BK1434.out 2).trans rfl; have hcz20_3 : w18.cell? ⟨gb1434, 3, none⟩ = some (.int .i64 a0_3) := (blk_cell BK1434.out 3).trans rfl; have hcz20_4 : w18.cell? ⟨gb1434, 4, none⟩ = some (.slice A0_4 l0_4.length c0_4) := (blk_cell BK1434.out 4).trans rfl; have hfz20_0 := blk_frozen BK1434.out 0; have hfz20_1 := blk_frozen BK1434.out 1; have hfz20_2 := blk_frozen BK1434.out 2; have hfz20_3 := blk_frozen BK1434.out 3; have hfz20_4 := blk_frozen BK1434.out 4) | ((with_reducible refine gate_callee (f := 66) rfl ?_); refine goesL_ (some 19) rfl rfl Try.func66 (by kernel_rfl) rfl #[.agg #[.int .i64 a0_1, .int .i64 a0_2, .int .i64 a0_3]] rfl (by (try simp only [List.map_toArray, List.map_cons, List.map_nil]); first | done | rfl | (simp only [List.length_drop, List.length_take]; rfl)) ?_; (with_reducible refine (impl_Lattice_cells.calls k a0_1 a0_2 a0_3 t1445 _ A3.out).mono ?_); rintro e w21 ⟨v1446, rfl, ho0, hb⟩; refine ⟨_, rfl, ?_⟩; have n0_ := Aside0.mk (Kd.R_elder' (by (with_reducible repeat (first | apply Kd.R_alloc | apply Kd.R_drewN | apply Kd.R_drew)); exact HO1444.out) (Kd.R_base ho0) hb); have n1_ := Aside0.mk (Kd.R_lower (Kd.R_newB (Kd.R_newB (Kd.R_new' ho0 (Kd.R_lt (by (with_reducible repeat (first | apply Kd.R_alloc | apply Kd.R_drewN | apply Kd.R_drew)); exact HO1444.out))) (g := gb1440) (o := .cells #[.int .i64 t1436, .int .i64 t1437] 38 (0, 0)) (by (with_reducible repeat (first | refine blk_drewN ?_ _ | refine blk_drew ?_ | refine blk_alloc ?_ _)); exact BK1440.out)) (g := gb1441) (o := .cells #[.int .i64 t1438, .int .i64 t1439] 38 (0, 0)) (by (with_reducible repeat (first | refine blk_drewN ?_ _ | refine blk_drew ?_ | refine blk_alloc ?_ _)); exact BK1441.out)) (below_size (by repeat (first | (with_reducible first | exact HB.out | apply below_alloc | apply pw_below_drewN | apply below_drew1 | refine below_set ?_ GE1434.out | refine below_set ?_ GE1435.out | refine below_set ?_ GE1440.out | refine below_set ?_ GE1441.out) | exact HB.out)))); have n2_ := Aside0.mk (blk_below (g := gb1434) (o := .cells #[.int .i64 a0_0, .int .i64 a0_1, .int .i64 a0_2, .int .i64 a0_3, .slice A0_4 l0_4.length c0_4] 30 (0, 0)) (by (with_reducible repeat (first | refine blk_drewN ?_ _ | refine blk_drew ?_ | refine blk_alloc ?_ _)); exact BK1434.out) hb); have n3_ := Aside0.mk (blk_below (g := gb1435) (o := .cells #[.int .i64 0, .int .i64 0, .int .i64 0] 28 (0, 0)) (by (with_reducible repeat (first | refine blk_drewN ?_ _ | refine blk_drew ?_ | refine blk_alloc ?_ _)); exact BK1435.out) hb); have n4_ := Aside0.mk (blk_below (g := gb1440) (o := .cells #[.int .i64 t1436, .int .i64 t1437] 38 (0, 0)) (by (with_reducible repeat (first | refine blk_drewN ?_ _ | refine blk_drew ?_ | refine blk_alloc ?_ _)); exact BK1440.out) hb); have n5_ := Aside0.mk (blk_below (g := gb1441) (o := .cells #[.int .i64 t1438, .int .i64 t1439] 38 (0, 0)) (by (with_reducible repeat (first | refine blk_drewN ?_ _ | refine blk_drew ?_ | refine blk_alloc ?_ _)); exact BK1441.out) hb); have n6_ := Aside0.mk (below_step (by repeat (first | (with_reducible first | exact HB.out | apply below_alloc | apply pw_below_drewN | apply below_drew1 | refine below_set ?_ GE1434.out | refine below_set ?_ GE1435.out | refine below_set ?_ GE1440.out | refine below_set ?_ GE1441.out) | exact HB.out)) hb); clear HO1444; clear BK1434; clear BK1435; clear BK1440; clear BK1441; clear HB; have HO1444 := n0_; have HO1447 := n1_; have BK1434 := n2_; have BK1435 := n3_; have BK1440 := n4_; have BK1441 := n5_; have HB := n6_; clear n0_ n1_ n2_ n3_ n4_ n5_ n6_; (try clear hb); (try clear hb2); (try clear hk); (try clear hi); (try clear ho0); obtain ⟨Ao22, co22, eo22⟩ := Kd.R_slice HO1447.out; subst eo22))
 go_loopg [5, 21] k (fun kq v5 v21 w' => ∃ (x5_1 : List (S38)) (x21_1 : Int), v21 = .int .i64 x21_1 ∧ Aside0 (impl_Pattern_fullLattice.l0 kq x5_1 t1445 (t1445.length : Int) x21_1 a0_0 a0_1 a0_2 a0_3 l0_4 = some (r1, r2, r3)) ∧ Aside0 (kq ≤ k) ∧ Aside0 (Kd.R k38 38 w' w.heap.size (fun k_ => some k_ ≠ ((.slice Ao22 t1445.length co22) : Value).ownBlock ∧ k_ ≠ gb1440 ∧ k_ ≠ gb1441) v5 x5_1) ∧ Aside0 (Kd.R k38 38 w' w.heap.size (fun k_ => some k_ ≠ (v5 : Value).ownBlock ∧ k_ ≠ gb1440 ∧ k_ ≠ gb1441) (.slice Ao22 t1445.length co22) t1445) ∧ Aside0 (w'.heap[gb1434]? = some (.cells #[.int .i64 a0_0, .int .i64 a0_1, .int .i64 a0_2, .int .i64 a0_3, (.slice A0_4 l0_4.length c0_4)] 30 (0, 0))) ∧ Aside0 (w'.heap[gb1435]? = some (.cells #[.int .i64 0, .int .i64 0, .int .i64 0] 28 (0, 0))) ∧ Aside0 (w'.heap[gb1440]? = some (.cells #[.int .i64 t1436, .int .i64 t1437] 38 (0, 0))) ∧ Aside0 (w'.heap[gb1441]? = some (.cells #[.int .i64 t1438, .int .i64 t1439] 38 (0, 0))) ∧ Aside0 (Below w.heap.size w w'))
 case atStart => exact ⟨(y1442), (0), (by first | rfl | (simp; done) | (simp [*]; done)), H', ⟨Nat.le_refl _⟩, ⟨by (with_reducible repeat (first | apply Kd.R_alloc | apply Kd.R_drewN | apply Kd.R_drew)); exact Kd.R_mono HO1444.out (fun _ hk => ⟨hk.2, ⟨hk.1.1.2, hk.1.2⟩⟩)⟩, ⟨by (with_reducible repeat (first | apply Kd.R_alloc | apply Kd.R_drewN | apply Kd.R_drew)); exact Kd.R_mono HO1447.out (fun _ hk => ⟨hk.1.1.2, ⟨hk.1.2, hk.2⟩⟩)⟩, ⟨by (with_reducible repeat (first | refine blk_drewN ?_ _ | refine blk_drew ?_ | refine blk_alloc ?_ _)); exact BK1434.out⟩, ⟨by (with_reducible repeat (first | refine blk_drewN ?_ _ | refine blk_drew ?_ | refine blk_alloc ?_ _)); exact BK1435.out⟩, ⟨by (with_reducible repeat (first | refine blk_drewN ?_ _ | refine blk_drew ?_ | refine blk_alloc ?_ _)); exact BK1440.out⟩, ⟨by (with_reducible repeat (first | refine blk_drewN ?_ _ | refine blk_drew ?_ | refine blk_alloc ?_ _)); exact BK1441.out⟩, ⟨by repeat (first | (with_reducible first | exact HB.out | apply below_alloc | apply pw_below_drewN | apply below_drew1 | refine below_set ?_ GE1434.out | refine below_set ?_ GE1435.out | refine below_set ?_ GE1440.out | refine below_set ?_ GE1441.out) | exact HB.out)⟩⟩
 case round =>
  clear H'
  try clear c1
  try clear c2
  try clear p2
  try clear c6
  try clear c11
  try clear c12
  try clear c13
  try clear c14
  try clear c15
  try clear c16
  try clear hcz14_0
  try clear hcz14_1
  try clear hcz17_0
  try clear hcz17_1
  try clear hcz20_0
  try clear hcz20_1
  try clear hcz20_2
  try clear hcz20_3
  try clear hcz20_4
  try clear hcz7_0
  try clear hcz7_1
  try clear hcz7_2
  try clear hcz7_3
  try clear hcz7_4
  try clear hfz14_0
  try clear hfz14_1
  try clear hfz17_0
  try clear hfz17_1
  try clear hfz20_0
  try clear hfz20_1
  try clear hfz20_2
  try clear hfz20_3
  try clear hfz20_4
  try clear hfz7_0
  try clear hfz7_1
  try clear hfz7_2
  try clear hfz7_3
  try clear hfz7_4
  obtain ⟨x5_1, x21_1, rfl, HA, HK1, HO_5, HO_19, BK1434, BK1435, BK1440, BK1441, HB⟩ := hrel
  cases gk with
  | zero => exact absurd HA.out (by simp [impl_Pattern_fullLattice.l0])
  | succ k1 =>
   have H := HA.out
   clear HA
   simp only [impl_Pattern_fullLattice.l0] at H
   by_cases c23 : x21_1 < (t1445.length : Int)
   ·
    rw [if_pos c23] at H
    have c23b0 : decide (x21_1 < (t1445.length : Int)) = true := decide_eq_true c23
    clear c23
    by_cases c24 : 0 ≤ x21_1
    ·
     rw [if_pos c24] at H
     have c24b0 : decide (0 ≤ x21_1) = true := decide_eq_true c24
     clear c24
     by_cases c25 : x21_1 < (t1445.length : Int)
     ·
      rw [if_pos c25] at H
      have c25b0 : decide (x21_1 < (t1445.length : Int)) = true := decide_eq_true c25
      clear c25
      replace H := Option.bind_eq_some_iff.mp H
      obtain ⟨⟨t1453, t1454, t1455, t1456⟩, A260, H⟩ := H
      replace H : ((impl_Pattern_keeps.f k1 a0_0 a0_1 a0_2 a0_3 l0_4 t1453 t1454 t1455 t1456 ((rd_T38 t1445 x21_1).f0) ((rd_T38 t1445 x21_1).f1)).bind fun t1457 => (if t1457 = true then (if x5_1.length < 8796093022208 then (impl_Pattern_fullLattice.l0 k1 (x5_1 ++ [(⟨(rd_T38 t1445 x21_1).f0, (rd_T38 t1445 x21_1).f1⟩ : S38)]) t1445 (t1445.length : Int) (wrap64 (x21_1 + 1)) a0_0 a0_1 a0_2 a0_3 l0_4) else (none)) else (impl_Pattern_fullLattice.l0 k1 x5_1 t1445 (t1445.length : Int) (wrap64 (x21_1 + 1)) a0_0 a0_1 a0_2 a0_3 l0_4))) = some (r1, r2, r3) := H
      have A26 := Aside0.mk A260
      clear A260
      replace H := Option.bind_eq_some_iff.mp H
      obtain ⟨t1457, A270, H⟩ := H
      replace H : (if t1457 = true then (if x5_1.length < 8796093022208 then (impl_Pattern_fullLattice.l0 k1 (x5_1 ++ [(⟨(rd_T38 t1445 x21_1).f0, (rd_T38 t1445 x21_1).f1⟩ : S38)]) t1445 (t1445.length : Int) (wrap64 (x21_1 + 1)) a0_0 a0_1 a0_2 a0_3 l0_4) else (none)) else (impl_Pattern_fullLattice.l0 k1 x5_1 t1445 (t1445.length : Int) (wrap64 (x21_1 + 1)) a0_0 a0_1 a0_2 a0_3 l0_4)) = some (r1, r2, r3) := H
      have A27 := Aside0.mk A270
      clear A270
      by_cases c28 : t1457 = true
      ·
       subst c28
       have H1 : (if x5_1.length < 8796093022208 then (impl_Pattern_fullLattice.l0 k1 (x5_1 ++ [(⟨(rd_T38 t1445 x21_1).f0, (rd_T38 t1445 x21_1).f1⟩ : S38)]) t1445 (t1445.length : Int) (wrap64 (x21_1 + 1)) a0_0 a0_1 a0_2 a0_3 l0_4) else (none)) = some (r1, r2, r3) := by rw [if_pos rfl] at H; exact H
       clear H
       have H := H1
       clear H1
       by_cases c29 : x5_1.length < 8796093022208
       ·
        rw [if_pos c29] at H
        have LMc29 := Aside0.mk c29
        clear c29
        obtain ⟨y1458, hy1458⟩ : ∃ y_ : List (S38), y_ = (x5_1 ++ [(⟨(rd_T38 t1445 x21_1).f0, (rd_T38 t1445 x21_1).f1⟩ : S38)]) := ⟨_, rfl⟩
        replace H : (impl_Pattern_fullLattice.l0 k1 y1458 t1445 (t1445.length : Int) (wrap64 (x21_1 + 1)) a0_0 a0_1 a0_2 a0_3 l0_4) = some (r1, r2, r3) := by first | (rw [hy1458]; with_reducible exact H) | (have H2_ := (Option.bind_some _ _).symm.trans H; rw [hy1458]; with_reducible exact H2_) | (have H2_ := (Option.bind_some _ _).symm.trans H; with_reducible exact H2_) | with_reducible exact H | (rw [hy1458]; exact H) | exact H
        have Ny1458 := Aside0.mk hy1458
        clear hy1458
        have H' := Aside0.mk H
        clear H
        have p1451 : 0 ≤ (x21_1 : Int) := of_decide_eq_true (by first | (with_reducible assumption) | assumption)
        have q1451 : x21_1 < (t1445.length : Int) := of_decide_eq_true (by first | (with_reducible assumption) | assumption)
        obtain ⟨ad1451, e1451, hx1451_0, hx1451_1⟩ := at_T38 (Kd.R_reads' HO_19.out).2.2 x21_1 p1451 q1451
        cases e1451
        replace p1451 := eq_true p1451
        replace q1451 := eq_true q1451
        try go_wp2_with (first | ((with_reducible refine gate_dst (N := 7) rfl ?_); refine box_event ?hg (N := 7) ?hd (cs := #[.int .i64 0, .int .i64 0]) (t := 38) ?hr ?_; (case hd => rfl); (case hg => rfl); (case hr => first | (go_simp; done) | (go_simp; rfl)); intro gb1452 hg w30 hbox hb; have n0_ := Aside0.mk (Kd.R_below (Kd.R_elderB (by (with_reducible repeat (first | apply Kd.R_alloc | apply Kd.R_drewN | apply Kd.R_drew)); exact HO_5.out) gb1452 (Nat.le_of_eq hg.symm)) hb); have n1_ := Aside0.mk (Kd.R_below (Kd.R_elderB (by (with_reducible repeat (first | apply Kd.R_alloc | apply Kd.R_drewN | apply Kd.R_drew)); exact HO_19.out) gb1452 (Nat.le_of_eq hg.symm)) hb); have n2_ := Aside0.mk (blk_below (g := gb1434) (o := .cells #[.int .i64 a0_0, .int .i64 a0_1, .int .i64 a0_2, .int .i64 a0_3, .slice A0_4 l0_4.length c0_4] 30 (0, 0)) (by (with_reducible repeat (first | refine blk_drewN ?_ _ | refine blk_drew ?_ | refine blk_alloc ?_ _)); exact BK1434.out) hb); have n3_ := Aside0.mk (blk_below (g := gb1435) (o := .cells #[.int .i64 0, .int .i64 0, .int .i64 0] 28 (0, 0)) (by (with_reducible repeat (first | refine blk_drewN ?_ _ | refine blk_drew ?_ | refine blk_alloc ?_ _)); exact BK1435.out) hb); have n4_ := Aside0.mk (blk_below (g := gb1440) (o := .cells #[.int .i64 t1436, .int .i64 t1437] 38 (0, 0)) (by (with_reducible repeat (first | refine blk_drewN ?_ _ | refine blk_drew ?_ | refine blk_alloc ?_ _)); exact BK1440.out) hb); have n5_ := Aside0.mk (blk_below (g := gb1441) (o := .cells #[.int .i64 t1438, .int .i64 t1439] 38 (0, 0)) (by (with_reducible repeat (first | refine blk_drewN ?_ _ | refine blk_drew ?_ | refine blk_alloc ?_ _)); exact BK1441.out) hb); have n6_ := Aside0.mk (below_step (by repeat (first | (with_reducible first | exact HB.out | apply below_alloc | apply pw_below_drewN | apply below_drew1 | refine below_set ?_ GE1434.out | refine below_set ?_ GE1435.out | refine below_set ?_ GE1440.out | refine below_set ?_ GE1441.out) | exact HB.out)) hb); have n7_ := Aside0.mk (hbox); have n8_ := Aside0.mk ((by rw [hg]; exact (below_size (by repeat (first | (with_reducible first | exact HB.out | apply below_alloc | apply pw_below_drewN | apply below_drew1 | refine below_set ?_ GE1434.out | refine below_set ?_ GE1435.out | refine below_set ?_ GE1440.out | refine below_set ?_ GE1441.out) | exact HB.out))) : w.heap.size ≤ gb1452)); have n9_ := Aside0.mk ((by rw [hg]; exact (below_size (by repeat (first | (with_reducible first | exact HB.out | apply below_alloc | apply pw_below_drewN | apply below_drew1 | refine below_set ?_ GE1434.out | refine below_set ?_ GE1435.out | refine below_set ?_ GE1440.out | refine below_set ?_ GE1441.out) | exact HB.out))) : w.heap.size ≤ gb1452)); have n10_ := Aside0.mk ((by rw [hg]; exact Nat.ne_of_lt (blk_lt (g := gb1434) (o := .cells #[.int .i64 a0_0, .int .i64 a0_1, .int .i64 a0_2, .int .i64 a0_3, .slice A0_4 l0_4.length c0_4] 30 (0, 0)) (by (with_reducible repeat (first | refine blk_drewN ?_ _ | refine blk_drew ?_ | refine blk_alloc ?_ _)); exact BK1434.out)) : gb1434 ≠ gb1452)); have n11_ := Aside0.mk ((by rw [hg]; exact Nat.ne_of_gt (blk_lt (g := gb1434) (o := .cells #[.int .i64 a0_0, .int .i64 a0_1, .int .i64 a0_2, .int .i64 a0_3, .slice A0_4 l0_4.length c0_4] 30 (0, 0)) (by (with_reducible repeat (first | refine blk_drewN ?_ _ | refine blk_drew ?_ | refine blk_alloc ?_ _)); exact BK1434.out)) : gb1452 ≠ gb1434)); have n12_ := Aside0.mk ((by rw [hg]; exact Nat.ne_of_lt (blk_lt (g := gb1435) (o := .cells #[.int .i64 0, .int .i64 0, .int .i64 0] 28 (0, 0)) (by (with_reducible repeat (first | refine blk_drewN ?_ _ | refine blk_drew ?_ | refine blk_alloc ?_ _)); exact BK1435.out)) : gb1435 ≠ gb1452)); have n13_ := Aside0.mk ((by rw [hg]; exact Nat.ne_of_gt (blk_lt (g := gb1435) (o := .cells #[.int .i64 0, .int .i64 0, .int .i64 0] 28 (0, 0)) (by (with_reducible repeat (first | refine blk_drewN ?_ _ | refine blk_drew ?_ | refine blk_alloc ?_ _)); exact BK1435.out)) : gb1452 ≠ gb1435)); have n14_ := Aside0.mk ((by rw [hg]; exact Nat.ne_of_lt (blk_lt (g := gb1440) (o := .cells #[.int .i64 t1436, .int .i64 t1437] 38 (0, 0)) (by (with_reducible repeat (first | refine blk_drewN ?_ _ | refine blk_drew ?_ | refine blk_alloc ?_ _)); exact BK1440.out)) : gb1440 ≠ gb1452)); have n15_ := Aside0.mk ((by rw [hg]; exact Nat.ne_of_gt (blk_lt (g := gb1440) (o := .cells #[.int .i64 t1436, .int .i64 t1437] 38 (0, 0)) (by (with_reducible repeat (first | refine blk_drewN ?_ _ | refine blk_drew ?_ | refine blk_alloc ?_ _)); exact BK1440.out)) : gb1452 ≠ gb1440)); have n16_ := Aside0.mk ((by rw [hg]; exact Nat.ne_of_lt (blk_lt (g := gb1441) (o := .cells #[.int .i64 t1438, .int .i64 t1439] 38 (0, 0)) (by (with_reducible repeat (first | refine blk_drewN ?_ _ | refine blk_drew ?_ | refine blk_alloc ?_ _)); exact BK1441.out)) : gb1441 ≠ gb1452)); have n17_ := Aside0.mk ((by rw [hg]; exact Nat.ne_of_gt (blk_lt (g := gb1441) (o := .cells #[.int .i64 t1438, .int .i64 t1439] 38 (0, 0)) (by (with_reducible repeat (first | refine blk_drewN ?_ _ | refine blk_drew ?_ | refine blk_alloc ?_ _)); exact BK1441.out)) : gb1452 ≠ gb1441)); clear HO_5; clear HO_19; clear BK1434; clear BK1435; clear BK1440; clear BK1441; clear HB; have HO_5 := n0_; have HO_19 := n1_; have BK1434 := n2_; have BK1435 := n3_; have BK1440 := n4_; have BK1441 := n5_; have HB := n6_; have BK1452 := n7_; have GW1452 := n8_; have GE1452 := n9_; have NB1434_1452 := n10_; have NB1452_1434 := n11_; have NB1435_1452 := n12_; have NB1452_1435 := n13_; have NB1440_1452 := n14_; have NB1452_1440 := n15_; have NB1441_1452 := n16_; have NB1452_1441 := n17_; clear n0_ n1_ n2_ n3_ n4_ n5_ n6_ n7_ n8_ n9_ n10_ n11_ n12_ n13_ n14_ n15_ n16_ n17_; clear hb hbox hg; have hnb31 := NB1452_1434.out; have hnc31 := NB1434_1452.out; have hnb32 := NB1452_1435.out; have hnc32 := NB1435_1452.out; have hnb33 := NB1452_1440.out; have hnc33 := NB1440_1452.out; have hnb34 := NB1452_1441.out; have hnc34 := NB1441_1452.out; have hcz35_0 : w30.cell? ⟨gb1452, 0, none⟩ = some (.int .i64 0) := (blk_cell BK1452.out 0).trans rfl; have hcz35_1 : w30.cell? ⟨gb1452, 1, none⟩ = some (.int .i64 0) := (blk_cell BK1452.out 1).trans rfl; have hfz35_0 := blk_frozen BK1452.out 0; have hfz35_1 := blk_frozen BK1452.out 1))
        have n0_ : Aside0 (Kd.R k38 38 ((w30.setCell ⟨gb1452, 0, none⟩ (.int .i64 ((rd_T38 t1445 x21_1).f0))).setCell ⟨gb1452, 1, none⟩ (.int .i64 ((rd_T38 t1445 x21_1).f1))) w.heap.size (fun k_ => some k_ ≠ (.slice (some ad1451) t1445.length co22 : Value).ownBlock ∧ k_ ≠ gb1440 ∧ k_ ≠ gb1441 ∧ k_ ≠ gb1452) u5 x5_1) := ⟨by (with_reducible repeat (first | apply Kd.R_alloc | apply Kd.R_drewN | apply Kd.R_drew)); exact Kd.R_mono (Kd.R_far (p := ⟨gb1452, 1, none⟩) (Kd.R_far (p := ⟨gb1452, 0, none⟩) (Kd.R_mono HO_5.out (fun k_ hk => (⟨hk, hk.2⟩ : _ ∧ k_ ≠ gb1452))) (fun _ hk => hk.2) (.int .i64 ((rd_T38 t1445 x21_1).f0))) (fun _ hk => hk.2) (.int .i64 ((rd_T38 t1445 x21_1).f1))) (fun _ hk => ⟨hk.1.1.1, ⟨hk.1.1.2.1, ⟨hk.1.1.2.2, hk.1.2⟩⟩⟩)⟩
        have n1_ : Aside0 (Kd.R k38 38 ((w30.setCell ⟨gb1452, 0, none⟩ (.int .i64 ((rd_T38 t1445 x21_1).f0))).setCell ⟨gb1452, 1, none⟩ (.int .i64 ((rd_T38 t1445 x21_1).f1))) w.heap.size (fun k_ => some k_ ≠ (u5 : Value).ownBlock ∧ k_ ≠ gb1440 ∧ k_ ≠ gb1441 ∧ k_ ≠ gb1452) (.slice (some ad1451) t1445.length co22) t1445) := ⟨by (with_reducible repeat (first | apply Kd.R_alloc | apply Kd.R_drewN | apply Kd.R_drew)); exact Kd.R_mono (Kd.R_far (p := ⟨gb1452, 1, none⟩) (Kd.R_far (p := ⟨gb1452, 0, none⟩) (Kd.R_mono HO_19.out (fun k_ hk => (⟨hk, hk.2⟩ : _ ∧ k_ ≠ gb1452))) (fun _ hk => hk.2) (.int .i64 ((rd_T38 t1445 x21_1).f0))) (fun _ hk => hk.2) (.int .i64 ((rd_T38 t1445 x21_1).f1))) (fun _ hk => ⟨hk.1.1.1, ⟨hk.1.1.2.1, ⟨hk.1.1.2.2, hk.1.2⟩⟩⟩)⟩
        have n2_ : Aside0 (((w30.setCell ⟨gb1452, 0, none⟩ (.int .i64 ((rd_T38 t1445 x21_1).f0))).setCell ⟨gb1452, 1, none⟩ (.int .i64 ((rd_T38 t1445 x21_1).f1))).heap[gb1434]? = some (.cells #[.int .i64 a0_0, .int .i64 a0_1, .int .i64 a0_2, .int .i64 a0_3, .slice A0_4 l0_4.length c0_4] 30 (0, 0))) := ⟨by (with_reducible repeat (first | refine blk_drewN ?_ _ | refine blk_drew ?_ | refine blk_alloc ?_ _)); refine blk_far ?_ NB1434_1452.out _; (with_reducible repeat (first | refine blk_drewN ?_ _ | refine blk_drew ?_ | refine blk_alloc ?_ _)); refine blk_far ?_ NB1434_1452.out _; (with_reducible repeat (first | refine blk_drewN ?_ _ | refine blk_drew ?_ | refine blk_alloc ?_ _)); exact BK1434.out⟩
        have n3_ : Aside0 (((w30.setCell ⟨gb1452, 0, none⟩ (.int .i64 ((rd_T38 t1445 x21_1).f0))).setCell ⟨gb1452, 1, none⟩ (.int .i64 ((rd_T38 t1445 x21_1).f1))).heap[gb1435]? = some (.cells #[.int .i64 0, .int .i64 0, .int .i64 0] 28 (0, 0))) := ⟨by (with_reducible repeat (first | refine blk_drewN ?_ _ | refine blk_drew ?_ | refine blk_alloc ?_ _)); refine blk_far ?_ NB1435_1452.out _; (with_reducible repeat (first | refine blk_drewN ?_ _ | refine blk_drew ?_ | refine blk_alloc ?_ _)); refine blk_far ?_ NB1435_1452.out _; (with_reducible repeat (first | refine blk_drewN ?_ _ | refine blk_drew ?_ | refine blk_alloc ?_ _)); exact BK1435.out⟩
        have n4_ : Aside0 (((w30.setCell ⟨gb1452, 0, none⟩ (.int .i64 ((rd_T38 t1445 x21_1).f0))).setCell ⟨gb1452, 1, none⟩ (.int .i64 ((rd_T38 t1445 x21_1).f1))).heap[gb1440]? = some (.cells #[.int .i64 t1436, .int .i64 t1437] 38 (0, 0))) := ⟨by (with_reducible repeat (first | refine blk_drewN ?_ _ | refine blk_drew ?_ | refine blk_alloc ?_ _)); refine blk_far ?_ NB1440_1452.out _; (with_reducible repeat (first | refine blk_drewN ?_ _ | refine blk_drew ?_ | refine blk_alloc ?_ _)); refine blk_far ?_ NB1440_1452.out _; (with_reducible repeat (first | refine blk_drewN ?_ _ | refine blk_drew ?_ | refine blk_alloc ?_ _)); exact BK1440.out⟩
        have n5_ : Aside0 (((w30.setCell ⟨gb1452, 0, none⟩ (.int .i64 ((rd_T38 t1445 x21_1).f0))).setCell ⟨gb1452, 1, none⟩ (.int .i64 ((rd_T38 t1445 x21_1).f1))).heap[gb1441]? = some (.cells #[.int .i64 t1438, .int .i64 t1439] 38 (0, 0))) := ⟨by (with_reducible repeat (first | refine blk_drewN ?_ _ | refine blk_drew ?_ | refine blk_alloc ?_ _)); refine blk_far ?_ NB1441_1452.out _; (with_reducible repeat (first | refine blk_drewN ?_ _ | refine blk_drew ?_ | refine blk_alloc ?_ _)); refine blk_far ?_ NB1441_1452.out _; (with_reducible repeat (first | refine blk_drewN ?_ _ | refine blk_drew ?_ | refine blk_alloc ?_ _)); exact BK1441.out⟩
        have n6_ : Aside0 (((w30.setCell ⟨gb1452, 0, none⟩ (.int .i64 ((rd_T38 t1445 x21_1).f0))).setCell ⟨gb1452, 1, none⟩ (.int .i64 ((rd_T38 t1445 x21_1).f1))).heap[gb1452]? = some (.cells #[.int .i64 ((rd_T38 t1445 x21_1).f0), .int .i64 ((rd_T38 t1445 x21_1).f1)] 38 (0, 0))) := ⟨by (with_reducible repeat (first | refine blk_drewN ?_ _ | refine blk_drew ?_ | refine blk_alloc ?_ _)); refine blk_put (cs := #[.int .i64 ((rd_T38 t1445 x21_1).f0), .int .i64 0]) ?_ 1 _ rfl; (with_reducible repeat (first | refine blk_drewN ?_ _ | refine blk_drew ?_ | refine blk_alloc ?_ _)); refine blk_put (cs := #[.int .i64 0, .int .i64 0]) ?_ 0 _ rfl; (with_reducible repeat (first | refine blk_drewN ?_ _ | refine blk_drew ?_ | refine blk_alloc ?_ _)); exact BK1452.out⟩
        have n7_ : Aside0 (Below w.heap.size w ((w30.setCell ⟨gb1452, 0, none⟩ (.int .i64 ((rd_T38 t1445 x21_1).f0))).setCell ⟨gb1452, 1, none⟩ (.int .i64 ((rd_T38 t1445 x21_1).f1)))) := ⟨by repeat (first | (with_reducible first | exact HB.out | apply below_alloc | apply pw_below_drewN | apply below_drew1 | refine below_set ?_ GE1434.out | refine below_set ?_ GE1435.out | refine below_set ?_ GE1440.out | refine below_set ?_ GE1441.out | refine below_set ?_ GE1452.out) | exact HB.out)⟩
        (try clear HO_5)
        (try clear HO_19)
        (try clear BK1434)
        (try clear BK1435)
        (try clear BK1440)
        (try clear BK1441)
        (try clear BK1452)
        (try clear HB)
        generalize ((w30.setCell ⟨gb1452, 0, none⟩ (.int .i64 ((rd_T38 t1445 x21_1).f0))).setCell ⟨gb1452, 1, none⟩ (.int .i64 ((rd_T38 t1445 x21_1).f1))) = w36 at n0_ n1_ n2_ n3_ n4_ n5_ n6_ n7_ ⊢
        have HO_5 := n0_
        have HO_19 := n1_
        have BK1434 := n2_
        have BK1435 := n3_
        have BK1440 := n4_
        have BK1441 := n5_
        have BK1452 := n6_
        have HB := n7_
        clear n0_ n1_ n2_ n3_ n4_ n5_ n6_ n7_
        have n0_ := Aside0.mk (Kd.R_drew HO_5.out)
        have n1_ := Aside0.mk (Kd.R_drew HO_19.out)
        have n2_ := Aside0.mk (blk_drew BK1434.out)
        have n3_ := Aside0.mk (blk_drew BK1435.out)
        have n4_ := Aside0.mk (blk_drew BK1440.out)
        have n5_ := Aside0.mk (blk_drew BK1441.out)
        have n6_ := Aside0.mk (blk_drew BK1452.out)
        have n7_ := Aside0.mk (below_drew1 HB.out)
        clear HO_5
        clear HO_19
        clear BK1434
        clear BK1435
        clear BK1440
        clear BK1441
        clear BK1452
        clear HB
        have HO_5 := n0_
        have HO_19 := n1_
        have BK1434 := n2_
        have BK1435 := n3_
        have BK1440 := n4_
        have BK1441 := n5_
        have BK1452 := n6_
        have HB := n7_
        clear n0_ n1_ n2_ n3_ n4_ n5_ n6_ n7_
        refine start_ (n := 5) (S := fun w' => w'.cell? ⟨gb1434, 0, none⟩ = some (.int .i64 a0_0) ∧ w'.cell? ⟨gb1434, 1, none⟩ = some (.int .i64 a0_1) ∧ w'.cell? ⟨gb1434, 2, none⟩ = some (.int .i64 a0_2) ∧ w'.cell? ⟨gb1434, 3, none⟩ = some (.int .i64 a0_3) ∧ w'.cell? ⟨gb1434, 4, none⟩ = some (.slice A0_4 l0_4.length c0_4) ∧ w'.cell? ⟨gb1452, 0, none⟩ = some (.int .i64 ((rd_T38 t1445 x21_1).f0)) ∧ w'.cell? ⟨gb1452, 1, none⟩ = some (.int .i64 ((rd_T38 t1445 x21_1).f1))) (ds := []) #[false, false, false, false, false] (by kernel_rfl) rfl rfl ⟨(blk_cell BK1434.out 0).trans rfl, (blk_cell BK1434.out 1).trans rfl, (blk_cell BK1434.out 2).trans rfl, (blk_cell BK1434.out 3).trans rfl, (blk_cell BK1434.out 4).trans rfl, (blk_cell BK1452.out 0).trans rfl, (blk_cell BK1452.out 1).trans rfl⟩ (fun hHeld => ?_)
        generalize w36.drew = w37 at HO_5 HO_19 BK1434 BK1435 BK1440 BK1441 BK1452 HB hHeld ⊢
        refine take_ (i := 0) (N := some 25) (v := ?_) (a' := ?_) #[true, false, false, false, false] rfl rfl (by kernel_rfl) (fun _ _ _ h => h) (Or.inl ⟨by rfl, ?_⟩) hHeld ?_ ?_
        rotate_left
        ·
         rintro w' ⟨s0, s1, s2, s3, s4, s5, s6⟩
         go_simp
         with_reducible rfl
        rotate_left
        ·
         simp only [Act.put, List.setIfInBounds_toArray, List.set_cons_zero, List.set_cons_succ, i64_w, i32_w]
         rfl
        refine take_ (i := 2) (N := some 27) (v := ?_) (a' := ?_) #[true, false, true, false, false] rfl rfl (by kernel_rfl) (fun _ _ _ h => h) (Or.inl ⟨by rfl, ?_⟩) hHeld ?_ ?_
        rotate_left
        ·
         rintro w' ⟨s0, s1, s2, s3, s4, s5, s6⟩
         go_simp
         with_reducible rfl
        rotate_left
        ·
         simp only [Act.put, List.setIfInBounds_toArray, List.set_cons_zero, List.set_cons_succ, i64_w, i32_w]
         rfl
        refine one_ (i := 1) (N := some 26) #[true, true, true, false, false] rfl rfl (by kernel_rfl) (by decide) (fun K hK => ?_)
        refine goes_ Try.func81 (by kernel_rfl) rfl #[] (by rfl) rfl rfl (by (try simp only [List.map_toArray, List.map_cons, List.map_nil]); first | done | rfl | (simp only [List.length_drop, List.length_take]; rfl)) ?_
        with_reducible refine (impl_unit.calls  t1453 t1454 t1455 t1456 _ A26.out).mono ?_
        rintro e w38 ⟨rfl, hb⟩
        refine ⟨_, rfl, ?_⟩
        have n0_ := Aside0.mk (Kd.R_below (by (with_reducible repeat (first | apply Kd.R_alloc | apply Kd.R_drewN | apply Kd.R_drew)); exact HO_5.out) hb)
        have n1_ := Aside0.mk (Kd.R_below (by (with_reducible repeat (first | apply Kd.R_alloc | apply Kd.R_drewN | apply Kd.R_drew)); exact HO_19.out) hb)
        have n2_ := Aside0.mk (blk_below (g := gb1434) (o := .cells #[.int .i64 a0_0, .int .i64 a0_1, .int .i64 a0_2, .int .i64 a0_3, .slice A0_4 l0_4.length c0_4] 30 (0, 0)) (by (with_reducible repeat (first | refine blk_drewN ?_ _ | refine blk_drew ?_ | refine blk_alloc ?_ _)); exact BK1434.out) hb)
        have n3_ := Aside0.mk (blk_below (g := gb1435) (o := .cells #[.int .i64 0, .int .i64 0, .int .i64 0] 28 (0, 0)) (by (with_reducible repeat (first | refine blk_drewN ?_ _ | refine blk_drew ?_ | refine blk_alloc ?_ _)); exact BK1435.out) hb)
        have n4_ := Aside0.mk (blk_below (g := gb1440) (o := .cells #[.int .i64 t1436, .int .i64 t1437] 38 (0, 0)) (by (with_reducible repeat (first | refine blk_drewN ?_ _ | refine blk_drew ?_ | refine blk_alloc ?_ _)); exact BK1440.out) hb)
        have n5_ := Aside0.mk (blk_below (g := gb1441) (o := .cells #[.int .i64 t1438, .int .i64 t1439] 38 (0, 0)) (by (with_reducible repeat (first | refine blk_drewN ?_ _ | refine blk_drew ?_ | refine blk_alloc ?_ _)); exact BK1441.out) hb)
        have n6_ := Aside0.mk (blk_below (g := gb1452) (o := .cells #[.int .i64 ((rd_T38 t1445 x21_1).f0), .int .i64 ((rd_T38 t1445 x21_1).f1)] 38 (0, 0)) (by (with_reducible repeat (first | refine blk_drewN ?_ _ | refine blk_drew ?_ | refine blk_alloc ?_ _)); exact BK1452.out) hb)
        have n7_ := Aside0.mk (below_step (by repeat (first | (with_reducible first | exact HB.out | apply below_alloc | apply pw_below_drewN | apply below_drew1 | refine below_set ?_ GE1434.out | refine below_set ?_ GE1435.out | refine below_set ?_ GE1440.out | refine below_set ?_ GE1441.out | refine below_set ?_ GE1452.out) | exact HB.out)) hb)
        clear HO_5
        clear HO_19
        clear BK1434
        clear BK1435
        clear BK1440
        clear BK1441
        clear BK1452
        clear HB
        have HO_5 := n0_
        have HO_19 := n1_
        have BK1434 := n2_
        have BK1435 := n3_
        have BK1440 := n4_
        have BK1441 := n5_
        have BK1452 := n6_
        have HB := n7_
        clear n0_ n1_ n2_ n3_ n4_ n5_ n6_ n7_
        (try clear hb)
        (try clear hb2)
        (try clear hk)
        (try clear hi)
        refine hK.out _ _ ⟨(blk_cell BK1434.out 0).trans rfl, (blk_cell BK1434.out 1).trans rfl, (blk_cell BK1434.out 2).trans rfl, (blk_cell BK1434.out 3).trans rfl, (blk_cell BK1434.out 4).trans rfl, (blk_cell BK1452.out 0).trans rfl, (blk_cell BK1452.out 1).trans rfl⟩ (fun hHeld => ?_)
        clear hK K
        refine norm_ (a' := ?_) ?_ ?_
        rotate_left
        ·
         show Act.put _ (some 26) _ = _
         simp only [Act.put, List.setIfInBounds_toArray, List.set_cons_zero, List.set_cons_succ, i64_w, i32_w]
         rfl
        refine pure_ (i := 3) (N := some 28) (v := ?_) (a' := ?_) #[true, true, true, true, false] rfl rfl (by kernel_rfl) (fun _ _ _ h => h) (Or.inl ⟨by rfl, ?_⟩) ?_ ?_
        rotate_left
        ·
         intro w'
         go_simp
         with_reducible rfl
        rotate_left
        ·
         simp only [Act.put, List.setIfInBounds_toArray, List.set_cons_zero, List.set_cons_succ, i64_w, i32_w]
         rfl
        refine one_ (i := 4) (N := some 29) #[true, true, true, true, true] rfl rfl (by kernel_rfl) (by decide) (fun K hK => ?_)
        refine goes_ Try.func151 (by kernel_rfl) rfl #[.agg #[.int .i64 a0_0, .int .i64 a0_1, .int .i64 a0_2, .int .i64 a0_3, .slice A0_4 l0_4.length c0_4], .agg #[.int .i64 t1453, .int .i64 t1454, .int .i64 t1455, .int .i64 t1456, .int .i64 ((rd_T38 t1445 x21_1).f0), .int .i64 ((rd_T38 t1445 x21_1).f1)]] (by rfl) rfl rfl (by (try simp only [List.map_toArray, List.map_cons, List.map_nil]); first | done | rfl | (simp only [List.length_drop, List.length_take]; rfl)) ?_
        with_reducible refine (impl_Pattern_keeps.calls k1 a0_0 a0_1 a0_2 a0_3 _ _ l0_4 t1453 t1454 t1455 t1456 ((rd_T38 t1445 x21_1).f0) ((rd_T38 t1445 x21_1).f1) true _ ?side1 ?side2 A27.out).mono ?_
        (case side1 => repeat (first | exact (Kd.C_below HR0_4.out HB.out) | (with_reducible refine Kd.C_alloc ?_ _) | (with_reducible refine Kd.C_drewN ?_ _) | (with_reducible refine Kd.C_drew ?_)))
        (case side2 => exact HC0_4.out)
        rintro e w39 ⟨rfl, hb⟩
        refine ⟨_, rfl, ?_⟩
        have n0_ := Aside0.mk (Kd.R_below (by (with_reducible repeat (first | apply Kd.R_alloc | apply Kd.R_drewN | apply Kd.R_drew)); exact HO_5.out) hb)
        have n1_ := Aside0.mk (Kd.R_below (by (with_reducible repeat (first | apply Kd.R_alloc | apply Kd.R_drewN | apply Kd.R_drew)); exact HO_19.out) hb)
        have n2_ := Aside0.mk (blk_below (g := gb1434) (o := .cells #[.int .i64 a0_0, .int .i64 a0_1, .int .i64 a0_2, .int .i64 a0_3, .slice A0_4 l0_4.length c0_4] 30 (0, 0)) (by (with_reducible repeat (first | refine blk_drewN ?_ _ | refine blk_drew ?_ | refine blk_alloc ?_ _)); exact BK1434.out) hb)
        have n3_ := Aside0.mk (blk_below (g := gb1435) (o := .cells #[.int .i64 0, .int .i64 0, .int .i64 0] 28 (0, 0)) (by (with_reducible repeat (first | refine blk_drewN ?_ _ | refine blk_drew ?_ | refine blk_alloc ?_ _)); exact BK1435.out) hb)
        have n4_ := Aside0.mk (blk_below (g := gb1440) (o := .cells #[.int .i64 t1436, .int .i64 t1437] 38 (0, 0)) (by (with_reducible repeat (first | refine blk_drewN ?_ _ | refine blk_drew ?_ | refine blk_alloc ?_ _)); exact BK1440.out) hb)
        have n5_ := Aside0.mk (blk_below (g := gb1441) (o := .cells #[.int .i64 t1438, .int .i64 t1439] 38 (0, 0)) (by (with_reducible repeat (first | refine blk_drewN ?_ _ | refine blk_drew ?_ | refine blk_alloc ?_ _)); exact BK1441.out) hb)
        have n6_ := Aside0.mk (blk_below (g := gb1452) (o := .cells #[.int .i64 ((rd_T38 t1445 x21_1).f0), .int .i64 ((rd_T38 t1445 x21_1).f1)] 38 (0, 0)) (by (with_reducible repeat (first | refine blk_drewN ?_ _ | refine blk_drew ?_ | refine blk_alloc ?_ _)); exact BK1452.out) hb)
        have n7_ := Aside0.mk (below_step (by repeat (first | (with_reducible first | exact HB.out | apply below_alloc | apply pw_below_drewN | apply below_drew1 | refine below_set ?_ GE1434.out | refine below_set ?_ GE1435.out | refine below_set ?_ GE1440.out | refine below_set ?_ GE1441.out | refine below_set ?_ GE1452.out) | exact HB.out)) hb)
        clear HO_5
        clear HO_19
        clear BK1434
        clear BK1435
        clear BK1440
        clear BK1441
        clear BK1452
        clear HB
        have HO_5 := n0_
        have HO_19 := n1_
        have BK1434 := n2_
        have BK1435 := n3_
        have BK1440 := n4_
        have BK1441 := n5_
        have BK1452 := n6_
        have HB := n7_
        clear n0_ n1_ n2_ n3_ n4_ n5_ n6_ n7_
        (try clear hb)
        (try clear hb2)
        (try clear hk)
        (try clear hi)
        refine hK.out _ _ ⟨(blk_cell BK1434.out 0).trans rfl, (blk_cell BK1434.out 1).trans rfl, (blk_cell BK1434.out 2).trans rfl, (blk_cell BK1434.out 3).trans rfl, (blk_cell BK1434.out 4).trans rfl, (blk_cell BK1452.out 0).trans rfl, (blk_cell BK1452.out 1).trans rfl⟩ (fun hHeld => ?_)
        clear hK K
        refine norm_ (a' := ?_) ?_ ?_
        rotate_left
        ·
         show Act.put _ (some 29) _ = _
         simp only [Act.put, List.setIfInBounds_toArray, List.set_cons_zero, List.set_cons_succ, i64_w, i32_w]
         rfl
        refine done_ (by kernel_rfl) ?_
        have hcz40_0 : w39.cell? ⟨gb1452, 0, none⟩ = some (.int .i64 ((rd_T38 t1445 x21_1).f0)) := (blk_cell BK1452.out 0).trans rfl
        have hcz40_1 : w39.cell? ⟨gb1452, 1, none⟩ = some (.int .i64 ((rd_T38 t1445 x21_1).f1)) := (blk_cell BK1452.out 1).trans rfl
        have hfz40_0 := blk_frozen BK1452.out 0
        have hfz40_1 := blk_frozen BK1452.out 1
        try go_wp2_with (first | ((with_reducible refine gate_builtin (b := .append) (xs := #[.tmp 30, .tmp 32]) rfl ?_); at_builtin; refine Kd.R_append k38 (w0 := w) w.heap.size rfl (.tmp 30) (.tmp 32) 47 38 (.agg #[(.int .i64 0), (.int .i64 0)]) 16 rfl Try.underlying47 info38 rfl (by decide) (by omega) u5 x5_1 (⟨(rd_T38 t1445 x21_1).f0, (rd_T38 t1445 x21_1).f1⟩ : S38) [.int .i64 ((rd_T38 t1445 x21_1).f0), .int .i64 ((rd_T38 t1445 x21_1).f1)] (fun k_ => some k_ ≠ (.slice (some ad1451) t1445.length co22 : Value).ownBlock ∧ k_ ≠ gb1440 ∧ k_ ≠ gb1441 ∧ k_ ≠ gb1452) (fun _ => False) rfl rfl ?aP (fun _ hk => hk.elim) ?aF ?aO ?aB ?aS ?aL ?_; (case aP => exact k38_mkM _ _ _ (⟨(rd_T38 t1445 x21_1).f0, (rd_T38 t1445 x21_1).f1⟩ : S38)); (case aB => exact (by repeat (first | (with_reducible first | exact HB.out | apply below_alloc | apply pw_below_drewN | apply below_drew1 | refine below_set ?_ GE1434.out | refine below_set ?_ GE1435.out | refine below_set ?_ GE1440.out | refine below_set ?_ GE1441.out | refine below_set ?_ GE1452.out) | exact HB.out))); (case aF => exact (fun k_ hk => ⟨Kd.fresh' (Kd.R_lt (by (with_reducible repeat (first | apply Kd.R_alloc | apply Kd.R_drewN | apply Kd.R_drew)); exact HO_19.out)) k_ hk, Kd.freshB (g := gb1440) (o := .cells #[.int .i64 t1436, .int .i64 t1437] 38 (0, 0)) (by (with_reducible repeat (first | refine blk_drewN ?_ _ | refine blk_drew ?_ | refine blk_alloc ?_ _)); exact BK1440.out) k_ hk, Kd.freshB (g := gb1441) (o := .cells #[.int .i64 t1438, .int .i64 t1439] 38 (0, 0)) (by (with_reducible repeat (first | refine blk_drewN ?_ _ | refine blk_drew ?_ | refine blk_alloc ?_ _)); exact BK1441.out) k_ hk, Kd.freshB (g := gb1452) (o := .cells #[.int .i64 ((rd_T38 t1445 x21_1).f0), .int .i64 ((rd_T38 t1445 x21_1).f1)] 38 (0, 0)) (by (with_reducible repeat (first | refine blk_drewN ?_ _ | refine blk_drew ?_ | refine blk_alloc ?_ _)); exact BK1452.out) k_ hk⟩)); (case aO => exact (by (with_reducible repeat (first | apply Kd.R_alloc | apply Kd.R_drewN | apply Kd.R_drew)); exact HO_5.out)); (case aS => exact (below_size (by repeat (first | (with_reducible first | exact HB.out | apply below_alloc | apply pw_below_drewN | apply below_drew1 | refine below_set ?_ GE1434.out | refine below_set ?_ GE1435.out | refine below_set ?_ GE1440.out | refine below_set ?_ GE1441.out | refine below_set ?_ GE1452.out) | exact HB.out)))); (case aL => have := LMc29.out; omega); intro v1459 w41 ho hb hg hat; rw [← Ny1458.out] at ho; have n0_ := Aside0.mk (Kd.R_after (ok := (fun k_ => k_ ≠ gb1440 ∧ k_ ≠ gb1441 ∧ k_ ≠ gb1452)) (by (with_reducible repeat (first | apply Kd.R_alloc | apply Kd.R_drewN | apply Kd.R_drew)); exact Kd.R_mono HO_19.out (fun _ hk => ⟨⟨hk.2.1, ⟨hk.2.2.1, hk.2.2.2⟩⟩, hk.1⟩)) hg hat); have n1_ := Aside0.mk (blk_grown (g := gb1434) (o := .cells #[.int .i64 a0_0, .int .i64 a0_1, .int .i64 a0_2, .int .i64 a0_3, .slice A0_4 l0_4.length c0_4] 30 (0, 0)) (by (with_reducible repeat (first | refine blk_drewN ?_ _ | refine blk_drew ?_ | refine blk_alloc ?_ _)); exact BK1434.out) hg (Kd.R_ne HO_5.out BK1434.out (by decide))); have n2_ := Aside0.mk (blk_grown (g := gb1435) (o := .cells #[.int .i64 0, .int .i64 0, .int .i64 0] 28 (0, 0)) (by (with_reducible repeat (first | refine blk_drewN ?_ _ | refine blk_drew ?_ | refine blk_alloc ?_ _)); exact BK1435.out) hg (Kd.R_ne HO_5.out BK1435.out (by decide))); have n3_ := Aside0.mk (blk_grown (g := gb1440) (o := .cells #[.int .i64 t1436, .int .i64 t1437] 38 (0, 0)) (by (with_reducible repeat (first | refine blk_drewN ?_ _ | refine blk_drew ?_ | refine blk_alloc ?_ _)); exact BK1440.out) hg (Kd.R_away HO_5.out (fun _ hk => hk.2.1))); have n4_ := Aside0.mk (blk_grown (g := gb1441) (o := .cells #[.int .i64 t1438, .int .i64 t1439] 38 (0, 0)) (by (with_reducible repeat (first | refine blk_drewN ?_ _ | refine blk_drew ?_ | refine blk_alloc ?_ _)); exact BK1441.out) hg (Kd.R_away HO_5.out (fun _ hk => hk.2.2.1))); have n5_ := Aside0.mk (blk_grown (g := gb1452) (o := .cells #[.int .i64 ((rd_T38 t1445 x21_1).f0), .int .i64 ((rd_T38 t1445 x21_1).f1)] 38 (0, 0)) (by (with_reducible repeat (first | refine blk_drewN ?_ _ | refine blk_drew ?_ | refine blk_alloc ?_ _)); exact BK1452.out) hg (Kd.R_away HO_5.out (fun _ hk => hk.2.2.2))); have n6_ := Aside0.mk (hb); have n7_ := Aside0.mk (ho); clear HO_19; clear BK1434; clear BK1435; clear BK1440; clear BK1441; clear BK1452; clear HB; clear HO_5; have HO_19 := n0_; have BK1434 := n1_; have BK1435 := n2_; have BK1440 := n3_; have BK1441 := n4_; have BK1452 := n5_; have HB := n6_; have HO1460 := n7_; clear n0_ n1_ n2_ n3_ n4_ n5_ n6_ n7_; clear ho hb hg hat))
        go_roundg k1
        case measure => have := HK1.out; omega
        case rel => exact ⟨(y1458), (wrap64 (x21_1 + 1)), (by first | rfl | (simp; done) | (simp [*]; done)), H', ⟨by have := HK1.out; omega⟩, ⟨by (with_reducible repeat (first | apply Kd.R_alloc | apply Kd.R_drewN | apply Kd.R_drew)); exact Kd.R_mono HO1460.out (fun _ hk => ⟨hk.1, ⟨hk.2.1, hk.2.2.1⟩⟩)⟩, ⟨by (with_reducible repeat (first | apply Kd.R_alloc | apply Kd.R_drewN | apply Kd.R_drew)); exact Kd.R_mono HO_19.out (fun _ hk => ⟨hk.2, ⟨hk.1.1, hk.1.2.1⟩⟩)⟩, ⟨by (with_reducible repeat (first | refine blk_drewN ?_ _ | refine blk_drew ?_ | refine blk_alloc ?_ _)); exact BK1434.out⟩, ⟨by (with_reducible repeat (first | refine blk_drewN ?_ _ | refine blk_drew ?_ | refine blk_alloc ?_ _)); exact BK1435.out⟩, ⟨by (with_reducible repeat (first | refine blk_drewN ?_ _ | refine blk_drew ?_ | refine blk_alloc ?_ _)); exact BK1440.out⟩, ⟨by (with_reducible repeat (first | refine blk_drewN ?_ _ | refine blk_drew ?_ | refine blk_alloc ?_ _)); exact BK1441.out⟩, ⟨by repeat (first | (with_reducible first | exact HB.out | apply below_alloc | apply pw_below_drewN | apply below_drew1 | refine below_set ?_ GE1434.out | refine below_set ?_ GE1435.out | refine below_set ?_ GE1440.out | refine below_set ?_ GE1441.out | refine below_set ?_ GE1452.out) | exact HB.out)⟩⟩
       ·
        rw [if_neg c29] at H
        exact absurd H (by simp)
      ·
       replace c28 := Bool.eq_false_iff.mpr c28
       subst c28
       have H1 : (impl_Pattern_fullLattice.l0 k1 x5_1 t1445 (t1445.length : Int) (wrap64 (x21_1 + 1)) a0_0 a0_1 a0_2 a0_3 l0_4) = some (r1, r2, r3) := by rw [if_neg (show ¬ (false = true) by decide)] at H; exact H
       clear H
       have H := H1
       clear H1
       have H' := Aside0.mk H
       clear H
       have p1451 : 0 ≤ (x21_1 : Int) := of_decide_eq_true (by first | (with_reducible assumption) | assumption)
       have q1451 : x21_1 < (t1445.length : Int) := of_decide_eq_true (by first | (with_reducible assumption) | assumption)
       obtain ⟨ad1451, e1451, hx1451_0, hx1451_1⟩ := at_T38 (Kd.R_reads' HO_19.out).2.2 x21_1 p1451 q1451
       cases e1451
       replace p1451 := eq_true p1451
       replace q1451 := eq_true q1451
       try go_wp2_with (first | ((with_reducible refine gate_dst (N := 7) rfl ?_); refine box_event ?hg (N := 7) ?hd (cs := #[.int .i64 0, .int .i64 0]) (t := 38) ?hr ?_; (case hd => rfl); (case hg => rfl); (case hr => first | (go_simp; done) | (go_simp; rfl)); intro gb1452 hg w42 hbox hb; have n0_ := Aside0.mk (Kd.R_below (Kd.R_elderB (by (with_reducible repeat (first | apply Kd.R_alloc | apply Kd.R_drewN | apply Kd.R_drew)); exact HO_5.out) gb1452 (Nat.le_of_eq hg.symm)) hb); have n1_ := Aside0.mk (Kd.R_below (Kd.R_elderB (by (with_reducible repeat (first | apply Kd.R_alloc | apply Kd.R_drewN | apply Kd.R_drew)); exact HO_19.out) gb1452 (Nat.le_of_eq hg.symm)) hb); have n2_ := Aside0.mk (blk_below (g := gb1434) (o := .cells #[.int .i64 a0_0, .int .i64 a0_1, .int .i64 a0_2, .int .i64 a0_3, .slice A0_4 l0_4.length c0_4] 30 (0, 0)) (by (with_reducible repeat (first | refine blk_drewN ?_ _ | refine blk_drew ?_ | refine blk_alloc ?_ _)); exact BK1434.out) hb); have n3_ := Aside0.mk (blk_below (g := gb1435) (o := .cells #[.int .i64 0, .int .i64 0, .int .i64 0] 28 (0, 0)) (by (with_reducible repeat (first | refine blk_drewN ?_ _ | refine blk_drew ?_ | refine blk_alloc ?_ _)); exact BK1435.out) hb); have n4_ := Aside0.mk (blk_below (g := gb1440) (o := .cells #[.int .i64 t1436, .int .i64 t1437] 38 (0, 0)) (by (with_reducible repeat (first | refine blk_drewN ?_ _ | refine blk_drew ?_ | refine blk_alloc ?_ _)); exact BK1440.out) hb); have n5_ := Aside0.mk (blk_below (g := gb1441) (o := .cells #[.int .i64 t1438, .int .i64 t1439] 38 (0, 0)) (by (with_reducible repeat (first | refine blk_drewN ?_ _ | refine blk_drew ?_ | refine blk_alloc ?_ _)); exact BK1441.out) hb); have n6_ := Aside0.mk (below_step (by repeat (first | (with_reducible first | exact HB.out | apply below_alloc | apply pw_below_drewN | apply below_drew1 | refine below_set ?_ GE1434.out | refine below_set ?_ GE1435.out | refine below_set ?_ GE1440.out | refine below_set ?_ GE1441.out) | exact HB.out)) hb); have n7_ := Aside0.mk (hbox); have n8_ := Aside0.mk ((by rw [hg]; exact (below_size (by repeat (first | (with_reducible first | exact HB.out | apply below_alloc | apply pw_below_drewN | apply below_drew1 | refine below_set ?_ GE1434.out | refine below_set ?_ GE1435.out | refine below_set ?_ GE1440.out | refine below_set ?_ GE1441.out) | exact HB.out))) : w.heap.size ≤ gb1452)); have n9_ := Aside0.mk ((by rw [hg]; exact (below_size (by repeat (first | (with_reducible first | exact HB.out | apply below_alloc | apply pw_below_drewN | apply below_drew1 | refine below_set ?_ GE1434.out | refine below_set ?_ GE1435.out | refine below_set ?_ GE1440.out | refine below_set ?_ GE1441.out) | exact HB.out))) : w.heap.size ≤ gb1452)); have n10_ := Aside0.mk ((by rw [hg]; exact Nat.ne_of_lt (blk_lt (g := gb1434) (o := .cells #[.int .i64 a0_0, .int .i64 a0_1, .int .i64 a0_2, .int .i64 a0_3, .slice A0_4 l0_4.length c0_4] 30 (0, 0)) (by (with_reducible repeat (first | refine blk_drewN ?_ _ | refine blk_drew ?_ | refine blk_alloc ?_ _)); exact BK1434.out)) : gb1434 ≠ gb1452)); have n11_ := Aside0.mk ((by rw [hg]; exact Nat.ne_of_gt (blk_lt (g := gb1434) (o := .cells #[.int .i64 a0_0, .int .i64 a0_1, .int .i64 a0_2, .int .i64 a0_3, .slice A0_4 l0_4.length c0_4] 30 (0, 0)) (by (with_reducible repeat (first | refine blk_drewN ?_ _ | refine blk_drew ?_ | refine blk_alloc ?_ _)); exact BK1434.out)) : gb1452 ≠ gb1434)); have n12_ := Aside0.mk ((by rw [hg]; exact Nat.ne_of_lt (blk_lt (g := gb1435) (o := .cells #[.int .i64 0, .int .i64 0, .int .i64 0] 28 (0, 0)) (by (with_reducible repeat (first | refine blk_drewN ?_ _ | refine blk_drew ?_ | refine blk_alloc ?_ _)); exact BK1435.out)) : gb1435 ≠ gb1452)); have n13_ := Aside0.mk ((by rw [hg]; exact Nat.ne_of_gt (blk_lt (g := gb1435) (o := .cells #[.int .i64 0, .int .i64 0, .int .i64 0] 28 (0, 0)) (by (with_reducible repeat (first | refine blk_drewN ?_ _ | refine blk_drew ?_ | refine blk_alloc ?_ _)); exact BK1435.out)) : gb1452 ≠ gb1435)); have n14_ := Aside0.mk ((by rw [hg]; exact Nat.ne_of_lt (blk_lt (g := gb1440) (o := .cells #[.int .i64 t1436, .int .i64 t1437] 38 (0, 0)) (by (with_reducible repeat (first | refine blk_drewN ?_ _ | refine blk_drew ?_ | refine blk_alloc ?_ _)); exact BK1440.out)) : gb1440 ≠ gb1452)); have n15_ := Aside0.mk ((by rw [hg]; exact Nat.ne_of_gt (blk_lt (g := gb1440) (o := .cells #[.int .i64 t1436, .int .i64 t1437] 38 (0, 0)) (by (with_reducible repeat (first | refine blk_drewN ?_ _ | refine blk_drew ?_ | refine blk_alloc ?_ _)); exact BK1440.out)) : gb1452 ≠ gb1440)); have n16_ := Aside0.mk ((by rw [hg]; exact Nat.ne_of_lt (blk_lt (g := gb1441) (o := .cells #[.int .i64 t1438, .int .i64 t1439] 38 (0, 0)) (by (with_reducible repeat (first | refine blk_drewN ?_ _ | refine blk_drew ?_ | refine blk_alloc ?_ _)); exact BK1441.out)) : gb1441 ≠ gb1452)); have n17_ := Aside0.mk ((by rw [hg]; exact Nat.ne_of_gt (blk_lt (g := gb1441) (o := .cells #[.int .i64 t1438, .int .i64 t1439] 38 (0, 0)) (by (with_reducible repeat (first | refine blk_drewN ?_ _ | refine blk_drew ?_ | refine blk_alloc ?_ _)); exact BK1441.out)) : gb1452 ≠ gb1441)); clear HO_5; clear HO_19; clear BK1434; clear BK1435; clear BK1440; clear BK1441; clear HB; have HO_5 := n0_; have HO_19 := n1_; have BK1434 := n2_; have BK1435 := n3_; have BK1440 := n4_; have BK1441 := n5_; have HB := n6_; have BK1452 := n7_; have GW1452 := n8_; have GE1452 := n9_; have NB1434_1452 := n10_; have NB1452_1434 := n11_; have NB1435_1452 := n12_; have NB1452_1435 := n13_; have NB1440_1452 := n14_; have NB1452_1440 := n15_; have NB1441_1452 := n16_; have NB1452_1441 := n17_; clear n0_ n1_ n2_ n3_ n4_ n5_ n6_ n7_ n8_ n9_ n10_ n11_ n12_ n13_ n14_ n15_ n16_ n17_; clear hb hbox hg; have hnb43 := NB1452_1434.out; have hnc43 := NB1434_1452.out; have hnb44 := NB1452_1435.out; have hnc44 := NB1435_1452.out; have hnb45 := NB1452_1440.out; have hnc45 := NB1440_1452.out; have hnb46 := NB1452_1441.out; have hnc46 := NB1441_1452.out; have hcz47_0 : w42.cell? ⟨gb1452, 0, none⟩ = some (.int .i64 0) := (blk_cell BK1452.out 0).trans rfl; have hcz47_1 : w42.cell? ⟨gb1452, 1, none⟩ = some (.int .i64 0) := (blk_cell BK1452.out 1).trans rfl; have hfz47_0 := blk_frozen BK1452.out 0; have hfz47_1 := blk_frozen BK1452.out 1))
       have n0_ : Aside0 (Kd.R k38 38 ((w42.setCell ⟨gb1452, 0, none⟩ (.int .i64 ((rd_T38 t1445 x21_1).f0))).setCell ⟨gb1452, 1, none⟩ (.int .i64 ((rd_T38 t1445 x21_1).f1))) w.heap.size (fun k_ => some k_ ≠ (.slice (some ad1451) t1445.length co22 : Value).ownBlock ∧ k_ ≠ gb1440 ∧ k_ ≠ gb1441 ∧ k_ ≠ gb1452) u5 x5_1) := ⟨by (with_reducible repeat (first | apply Kd.R_alloc | apply Kd.R_drewN | apply Kd.R_drew)); exact Kd.R_mono (Kd.R_far (p := ⟨gb1452, 1, none⟩) (Kd.R_far (p := ⟨gb1452, 0, none⟩) (Kd.R_mono HO_5.out (fun k_ hk => (⟨hk, hk.2⟩ : _ ∧ k_ ≠ gb1452))) (fun _ hk => hk.2) (.int .i64 ((rd_T38 t1445 x21_1).f0))) (fun _ hk => hk.2) (.int .i64 ((rd_T38 t1445 x21_1).f1))) (fun _ hk => ⟨hk.1.1.1, ⟨hk.1.1.2.1, ⟨hk.1.1.2.2, hk.1.2⟩⟩⟩)⟩
       have n1_ : Aside0 (Kd.R k38 38 ((w42.setCell ⟨gb1452, 0, none⟩ (.int .i64 ((rd_T38 t1445 x21_1).f0))).setCell ⟨gb1452, 1, none⟩ (.int .i64 ((rd_T38 t1445 x21_1).f1))) w.heap.size (fun k_ => some k_ ≠ (u5 : Value).ownBlock ∧ k_ ≠ gb1440 ∧ k_ ≠ gb1441 ∧ k_ ≠ gb1452) (.slice (some ad1451) t1445.length co22) t1445) := ⟨by (with_reducible repeat (first | apply Kd.R_alloc | apply Kd.R_drewN | apply Kd.R_drew)); exact Kd.R_mono (Kd.R_far (p := ⟨gb1452, 1, none⟩) (Kd.R_far (p := ⟨gb1452, 0, none⟩) (Kd.R_mono HO_19.out (fun k_ hk => (⟨hk, hk.2⟩ : _ ∧ k_ ≠ gb1452))) (fun _ hk => hk.2) (.int .i64 ((rd_T38 t1445 x21_1).f0))) (fun _ hk => hk.2) (.int .i64 ((rd_T38 t1445 x21_1).f1))) (fun _ hk => ⟨hk.1.1.1, ⟨hk.1.1.2.1, ⟨hk.1.1.2.2, hk.1.2⟩⟩⟩)⟩
       have n2_ : Aside0 (((w42.setCell ⟨gb1452, 0, none⟩ (.int .i64 ((rd_T38 t1445 x21_1).f0))).setCell ⟨gb1452, 1, none⟩ (.int .i64 ((rd_T38 t1445 x21_1).f1))).heap[gb1434]? = some (.cells #[.int .i64 a0_0, .int .i64 a0_1, .int .i64 a0_2, .int .i64 a0_3, .slice A0_4 l0_4.length c0_4] 30 (0, 0))) := ⟨by (with_reducible repeat (first | refine blk_drewN ?_ _ | refine blk_drew ?_ | refine blk_alloc ?_ _)); refine blk_far ?_ NB1434_1452.out _; (with_reducible repeat (first | refine blk_drewN ?_ _ | refine blk_drew ?_ | refine blk_alloc ?_ _)); refine blk_far ?_ NB1434_1452.out _; (with_reducible repeat (first | refine blk_drewN ?_ _ | refine blk_drew ?_ | refine blk_alloc ?_ _)); exact BK1434.out⟩
       have n3_ : Aside0 (((w42.setCell ⟨gb1452, 0, none⟩ (.int .i64 ((rd_T38 t1445 x21_1).f0))).setCell ⟨gb1452, 1, none⟩ (.int .i64 ((rd_T38 t1445 x21_1).f1))).heap[gb1435]? = some (.cells #[.int .i64 0, .int .i64 0, .int .i64 0] 28 (0, 0))) := ⟨by (with_reducible repeat (first | refine blk_drewN ?_ _ | refine blk_drew ?_ | refine blk_alloc ?_ _)); refine blk_far ?_ NB1435_1452.out _; (with_reducible repeat (first | refine blk_drewN ?_ _ | refine blk_drew ?_ | refine blk_alloc ?_ _)); refine blk_far ?_ NB1435_1452.out _; (with_reducible repeat (first | refine blk_drewN ?_ _ | refine blk_drew ?_ | refine blk_alloc ?_ _)); exact BK1435.out⟩
       have n4_ : Aside0 (((w42.setCell ⟨gb1452, 0, none⟩ (.int .i64 ((rd_T38 t1445 x21_1).f0))).setCell ⟨gb1452, 1, none⟩ (.int .i64 ((rd_T38 t1445 x21_1).f1))).heap[gb1440]? = some (.cells #[.int .i64 t1436, .int .i64 t1437] 38 (0, 0))) := ⟨by (with_reducible repeat (first | refine blk_drewN ?_ _ | refine blk_drew ?_ | refine blk_alloc ?_ _)); refine blk_far ?_ NB1440_1452.out _; (with_reducible repeat (first | refine blk_drewN ?_ _ | refine blk_drew ?_ | refine blk_alloc ?_ _)); refine blk_far ?_ NB1440_1452.out _; (with_reducible repeat (first | refine blk_drewN ?_ _ | refine blk_drew ?_ | refine blk_alloc ?_ _)); exact BK1440.out⟩
       have n5_ : Aside0 (((w42.setCell ⟨gb1452, 0, none⟩ (.int .i64 ((rd_T38 t1445 x21_1).f0))).setCell ⟨gb1452, 1, none⟩ (.int .i64 ((rd_T38 t1445 x21_1).f1))).heap[gb1441]? = some (.cells #[.int .i64 t1438, .int .i64 t1439] 38 (0, 0))) := ⟨by (with_reducible repeat (first | refine blk_drewN ?_ _ | refine blk_drew ?_ | refine blk_alloc ?_ _)); refine blk_far ?_ NB1441_1452.out _; (with_reducible repeat (first | refine blk_drewN ?_ _ | refine blk_drew ?_ | refine blk_alloc ?_ _)); refine blk_far ?_ NB1441_1452.out _; (with_reducible repeat (first | refine blk_drewN ?_ _ | refine blk_drew ?_ | refine blk_alloc ?_ _)); exact BK1441.out⟩
       have n6_ : Aside0 (((w42.setCell ⟨gb1452, 0, none⟩ (.int .i64 ((rd_T38 t1445 x21_1).f0))).setCell ⟨gb1452, 1, none⟩ (.int .i64 ((rd_T38 t1445 x21_1).f1))).heap[gb1452]? = some (.cells #[.int .i64 ((rd_T38 t1445 x21_1).f0), .int .i64 ((rd_T38 t1445 x21_1).f1)] 38 (0, 0))) := ⟨by (with_reducible repeat (first | refine blk_drewN ?_ _ | refine blk_drew ?_ | refine blk_alloc ?_ _)); refine blk_put (cs := #[.int .i64 ((rd_T38 t1445 x21_1).f0), .int .i64 0]) ?_ 1 _ rfl; (with_reducible repeat (first | refine blk_drewN ?_ _ | refine blk_drew ?_ | refine blk_alloc ?_ _)); refine blk_put (cs := #[.int .i64 0, .int .i64 0]) ?_ 0 _ rfl; (with_reducible repeat (first | refine blk_drewN ?_ _ | refine blk_drew ?_ | refine blk_alloc ?_ _)); exact BK1452.out⟩
       have n7_ : Aside0 (Below w.heap.size w ((w42.setCell ⟨gb1452, 0, none⟩ (.int .i64 ((rd_T38 t1445 x21_1).f0))).setCell ⟨gb1452, 1, none⟩ (.int .i64 ((rd_T38 t1445 x21_1).f1)))) := ⟨by repeat (first | (with_reducible first | exact HB.out | apply below_alloc | apply pw_below_drewN | apply below_drew1 | refine below_set ?_ GE1434.out | refine below_set ?_ GE1435.out | refine below_set ?_ GE1440.out | refine below_set ?_ GE1441.out | refine below_set ?_ GE1452.out) | exact HB.out)⟩
       (try clear HO_5)
       (try clear HO_19)
       (try clear BK1434)
       (try clear BK1435)
       (try clear BK1440)
       (try clear BK1441)
       (try clear BK1452)
       (try clear HB)
       generalize ((w42.setCell ⟨gb1452, 0, none⟩ (.int .i64 ((rd_T38 t1445 x21_1).f0))).setCell ⟨gb1452, 1, none⟩ (.int .i64 ((rd_T38 t1445 x21_1).f1))) = w48 at n0_ n1_ n2_ n3_ n4_ n5_ n6_ n7_ ⊢
       have HO_5 := n0_
       have HO_19 := n1_
       have BK1434 := n2_
       have BK1435 := n3_
       have BK1440 := n4_
       have BK1441 := n5_
       have BK1452 := n6_
       have HB := n7_
       clear n0_ n1_ n2_ n3_ n4_ n5_ n6_ n7_
       have n0_ := Aside0.mk (Kd.R_drew HO_5.out)
       have n1_ := Aside0.mk (Kd.R_drew HO_19.out)
       have n2_ := Aside0.mk (blk_drew BK1434.out)
       have n3_ := Aside0.mk (blk_drew BK1435.out)
       have n4_ := Aside0.mk (blk_drew BK1440.out)
       have n5_ := Aside0.mk (blk_drew BK1441.out)
       have n6_ := Aside0.mk (blk_drew BK1452.out)
       have n7_ := Aside0.mk (below_drew1 HB.out)
       clear HO_5
       clear HO_19
       clear BK1434
       clear BK1435
       clear BK1440
       clear BK1441
       clear BK1452
       clear HB
       have HO_5 := n0_
       have HO_19 := n1_
       have BK1434 := n2_
       have BK1435 := n3_
       have BK1440 := n4_
       have BK1441 := n5_
       have BK1452 := n6_
       have HB := n7_
       clear n0_ n1_ n2_ n3_ n4_ n5_ n6_ n7_
       refine start_ (n := 5) (S := fun w' => w'.cell? ⟨gb1434, 0, none⟩ = some (.int .i64 a0_0) ∧ w'.cell? ⟨gb1434, 1, none⟩ = some (.int .i64 a0_1) ∧ w'.cell? ⟨gb1434, 2, none⟩ = some (.int .i64 a0_2) ∧ w'.cell? ⟨gb1434, 3, none⟩ = some (.int .i64 a0_3) ∧ w'.cell? ⟨gb1434, 4, none⟩ = some (.slice A0_4 l0_4.length c0_4) ∧ w'.cell? ⟨gb1452, 0, none⟩ = some (.int .i64 ((rd_T38 t1445 x21_1).f0)) ∧ w'.cell? ⟨gb1452, 1, none⟩ = some (.int .i64 ((rd_T38 t1445 x21_1).f1))) (ds := []) #[false, false, false, false, false] (by kernel_rfl) rfl rfl ⟨(blk_cell BK1434.out 0).trans rfl, (blk_cell BK1434.out 1).trans rfl, (blk_cell BK1434.out 2).trans rfl, (blk_cell BK1434.out 3).trans rfl, (blk_cell BK1434.out 4).trans rfl, (blk_cell BK1452.out 0).trans rfl, (blk_cell BK1452.out 1).trans rfl⟩ (fun hHeld => ?_)
       generalize w48.drew = w49 at HO_5 HO_19 BK1434 BK1435 BK1440 BK1441 BK1452 HB hHeld ⊢
       refine take_ (i := 0) (N := some 25) (v := ?_) (a' := ?_) #[true, false, false, false, false] rfl rfl (by kernel_rfl) (fun _ _ _ h => h) (Or.inl ⟨by rfl, ?_⟩) hHeld ?_ ?_
       rotate_left
       ·
        rintro w' ⟨s0, s1, s2, s3, s4, s5, s6⟩
        go_simp
        with_reducible rfl
       rotate_left
       ·
        simp only [Act.put, List.setIfInBounds_toArray, List.set_cons_zero, List.set_cons_succ, i64_w, i32_w]
        rfl
       refine take_ (i := 2) (N := some 27) (v := ?_) (a' := ?_) #[true, false, true, false, false] rfl rfl (by kernel_rfl) (fun _ _ _ h => h) (Or.inl ⟨by rfl, ?_⟩) hHeld ?_ ?_
       rotate_left
       ·
        rintro w' ⟨s0, s1, s2, s3, s4, s5, s6⟩
        go_simp
        with_reducible rfl
       rotate_left
       ·
        simp only [Act.put, List.setIfInBounds_toArray, List.set_cons_zero, List.set_cons_succ, i64_w, i32_w]
        rfl
       refine one_ (i := 1) (N := some 26) #[true, true, true, false, false] rfl rfl (by kernel_rfl) (by decide) (fun K hK => ?_)
       refine goes_ Try.func81 (by kernel_rfl) rfl #[] (by rfl) rfl rfl (by (try simp only [List.map_toArray, List.map_cons, List.map_nil]); first | done | rfl | (simp only [List.length_drop, List.length_take]; rfl)) ?_
       with_reducible refine (impl_unit.calls  t1453 t1454 t1455 t1456 _ A26.out).mono ?_
       rintro e w50 ⟨rfl, hb⟩
       refine ⟨_, rfl, ?_⟩
       have n0_ := Aside0.mk (Kd.R_below (by (with_reducible repeat (first | apply Kd.R_alloc | apply Kd.R_drewN | apply Kd.R_drew)); exact HO_5.out) hb)
       have n1_ := Aside0.mk (Kd.R_below (by (with_reducible repeat (first | apply Kd.R_alloc | apply Kd.R_drewN | apply Kd.R_drew)); exact HO_19.out) hb)
       have n2_ := Aside0.mk (blk_below (g := gb1434) (o := .cells #[.int .i64 a0_0, .int .i64 a0_1, .int .i64 a0_2, .int .i64 a0_3, .slice A0_4 l0_4.length c0_4] 30 (0, 0)) (by (with_reducible repeat (first | refine blk_drewN ?_ _ | refine blk_drew ?_ | refine blk_alloc ?_ _)); exact BK1434.out) hb)
       have n3_ := Aside0.mk (blk_below (g := gb1435) (o := .cells #[.int .i64 0, .int .i64 0, .int .i64 0] 28 (0, 0)) (by (with_reducible repeat (first | refine blk_drewN ?_ _ | refine blk_drew ?_ | refine blk_alloc ?_ _)); exact BK1435.out) hb)
       have n4_ := Aside0.mk (blk_below (g := gb1440) (o := .cells #[.int .i64 t1436, .int .i64 t1437] 38 (0, 0)) (by (with_reducible repeat (first | refine blk_drewN ?_ _ | refine blk_drew ?_ | refine blk_alloc ?_ _)); exact BK1440.out) hb)
       have n5_ := Aside0.mk (blk_below (g := gb1441) (o := .cells #[.int .i64 t1438, .int .i64 t1439] 38 (0, 0)) (by (with_reducible repeat (first | refine blk_drewN ?_ _ | refine blk_drew ?_ | refine blk_alloc ?_ _)); exact BK1441.out) hb)
       have n6_ := Aside0.mk (blk_below (g := gb1452) (o := .cells #[.int .i64 ((rd_T38 t1445 x21_1).f0), .int .i64 ((rd_T38 t1445 x21_1).f1)] 38 (0, 0)) (by (with_reducible repeat (first | refine blk_drewN ?_ _ | refine blk_drew ?_ | refine blk_alloc ?_ _)); exact BK1452.out) hb)
       have n7_ := Aside0.mk (below_step (by repeat (first | (with_reducible first | exact HB.out | apply below_alloc | apply pw_below_drewN | apply below_drew1 | refine below_set ?_ GE1434.out | refine below_set ?_ GE1435.out | refine below_set ?_ GE1440.out | refine below_set ?_ GE1441.out | refine below_set ?_ GE1452.out) | exact HB.out)) hb)
       clear HO_5
       clear HO_19
       clear BK1434
       clear BK1435
       clear BK1440
       clear BK1441
       clear BK1452
       clear HB
       have HO_5 := n0_
       have HO_19 := n1_
       have BK1434 := n2_
       have BK1435 := n3_
       have BK1440 := n4_
       have BK1441 := n5_
       have BK1452 := n6_
       have HB := n7_
       clear n0_ n1_ n2_ n3_ n4_ n5_ n6_ n7_
       (try clear hb)
       (try clear hb2)
       (try clear hk)
       (try clear hi)
       refine hK.out _ _ ⟨(blk_cell BK1434.out 0).trans rfl, (blk_cell BK1434.out 1).trans rfl, (blk_cell BK1434.out 2).trans rfl, (blk_cell BK1434.out 3).trans rfl, (blk_cell BK1434.out 4).trans rfl, (blk_cell BK1452.out 0).trans rfl, (blk_cell BK1452.out 1).trans rfl⟩ (fun hHeld => ?_)
       clear hK K
       refine norm_ (a' := ?_) ?_ ?_
       rotate_left
       ·
        show Act.put _ (some 26) _ = _
        simp only [Act.put, List.setIfInBounds_toArray, List.set_cons_zero, List.set_cons_succ, i64_w, i32_w]
        rfl
       refine pure_ (i := 3) (N := some 28) (v := ?_) (a' := ?_) #[true, true, true, true, false] rfl rfl (by kernel_rfl) (fun _ _ _ h => h) (Or.inl ⟨by rfl, ?_⟩) ?_ ?_
       rotate_left
       ·
        intro w'
        go_simp
        with_reducible rfl
       rotate_left
       ·
        simp only [Act.put, List.setIfInBounds_toArray, List.set_cons_zero, List.set_cons_succ, i64_w, i32_w]
        rfl
       refine one_ (i := 4) (N := some 29) #[true, true, true, true, true] rfl rfl (by kernel_rfl) (by decide) (fun K hK => ?_)
       refine goes_ Try.func151 (by kernel_rfl) rfl #[.agg #[.int .i64 a0_0, .int .i64 a0_1, .int .i64 a0_2, .int .i64 a0_3, .slice A0_4 l0_4.length c0_4], .agg #[.int .i64 t1453, .int .i64 t1454, .int .i64 t1455, .int .i64 t1456, .int .i64 ((rd_T38 t1445 x21_1).f0), .int .i64 ((rd_T38 t1445 x21_1).f1)]] (by rfl) rfl rfl (by (try simp only [List.map_toArray, List.map_cons, List.map_nil]); first | done | rfl | (simp only [List.length_drop, List.length_take]; rfl)) ?_
       with_reducible refine (impl_Pattern_keeps.calls k1 a0_0 a0_1 a0_2 a0_3 _ _ l0_4 t1453 t1454 t1455 t1456 ((rd_T38 t1445 x21_1).f0) ((rd_T38 t1445 x21_1).f1) false _ ?side1 ?side2 A27.out).mono ?_
       (case side1 => repeat (first | exact (Kd.C_below HR0_4.out HB.out) | (with_reducible refine Kd.C_alloc ?_ _) | (with_reducible refine Kd.C_drewN ?_ _) | (with_reducible refine Kd.C_drew ?_)))
       (case side2 => exact HC0_4.out)
       rintro e w51 ⟨rfl, hb⟩
       refine ⟨_, rfl, ?_⟩
       have n0_ := Aside0.mk (Kd.R_below (by (with_reducible repeat (first | apply Kd.R_alloc | apply Kd.R_drewN | apply Kd.R_drew)); exact HO_5.out) hb)
       have n1_ := Aside0.mk (Kd.R_below (by (with_reducible repeat (first | apply Kd.R_alloc | apply Kd.R_drewN | apply Kd.R_drew)); exact HO_19.out) hb)
       have n2_ := Aside0.mk (blk_below (g := gb1434) (o := .cells #[.int .i64 a0_0, .int .i64 a0_1, .int .i64 a0_2, .int .i64 a0_3, .slice A0_4 l0_4.length c0_4] 30 (0, 0)) (by (with_reducible repeat (first | refine blk_drewN ?_ _ | refine blk_drew ?_ | refine blk_alloc ?_ _)); exact BK1434.out) hb)
       have n3_ := Aside0.mk (blk_below (g := gb1435) (o := .cells #[.int .i64 0, .int .i64 0, .int .i64 0] 28 (0, 0)) (by (with_reducible repeat (first | refine blk_drewN ?_ _ | refine blk_drew ?_ | refine blk_alloc ?_ _)); exact BK1435.out) hb)
       have n4_ := Aside0.mk (blk_below (g := gb1440) (o := .cells #[.int .i64 t1436, .int .i64 t1437] 38 (0, 0)) (by (with_reducible repeat (first | refine blk_drewN ?_ _ | refine blk_drew ?_ | refine blk_alloc ?_ _)); exact BK1440.out) hb)
       have n5_ := Aside0.mk (blk_below (g := gb1441) (o := .cells #[.int .i64 t1438, .int .i64 t1439] 38 (0, 0)) (by (with_reducible repeat (first | refine blk_drewN ?_ _ | refine blk_drew ?_ | refine blk_alloc ?_ _)); exact BK1441.out) hb)
       have n6_ := Aside0.mk (blk_below (g := gb1452) (o := .cells #[.int .i64 ((rd_T38 t1445 x21_1).f0), .int .i64 ((rd_T38 t1445 x21_1).f1)] 38 (0, 0)) (by (with_reducible repeat (first | refine blk_drewN ?_ _ | refine blk_drew ?_ | refine blk_alloc ?_ _)); exact BK1452.out) hb)
       have n7_ := Aside0.mk (below_step (by repeat (first | (with_reducible first | exact HB.out | apply below_alloc | apply pw_below_drewN | apply below_drew1 | refine below_set ?_ GE1434.out | refine below_set ?_ GE1435.out | refine below_set ?_ GE1440.out | refine below_set ?_ GE1441.out | refine below_set ?_ GE1452.out) | exact HB.out)) hb)
       clear HO_5
       clear HO_19
       clear BK1434
       clear BK1435
       clear BK1440
       clear BK1441
       clear BK1452
       clear HB
       have HO_5 := n0_
       have HO_19 := n1_
       have BK1434 := n2_
       have BK1435 := n3_
       have BK1440 := n4_
       have BK1441 := n5_
       have BK1452 := n6_
       have HB := n7_
       clear n0_ n1_ n2_ n3_ n4_ n5_ n6_ n7_
       (try clear hb)
       (try clear hb2)
       (try clear hk)
       (try clear hi)
       refine hK.out _ _ ⟨(blk_cell BK1434.out 0).trans rfl, (blk_cell BK1434.out 1).trans rfl, (blk_cell BK1434.out 2).trans rfl, (blk_cell BK1434.out 3).trans rfl, (blk_cell BK1434.out 4).trans rfl, (blk_cell BK1452.out 0).trans rfl, (blk_cell BK1452.out 1).trans rfl⟩ (fun hHeld => ?_)
       clear hK K
       refine norm_ (a' := ?_) ?_ ?_
       rotate_left
       ·
        show Act.put _ (some 29) _ = _
        simp only [Act.put, List.setIfInBounds_toArray, List.set_cons_zero, List.set_cons_succ, i64_w, i32_w]
        rfl
       refine done_ (by kernel_rfl) ?_
       try go_wp2
       go_roundg k1
       case measure => have := HK1.out; omega
       case rel => exact ⟨(x5_1), (wrap64 (x21_1 + 1)), (by first | rfl | (simp; done) | (simp [*]; done)), H', ⟨by have := HK1.out; omega⟩, ⟨by (with_reducible repeat (first | apply Kd.R_alloc | apply Kd.R_drewN | apply Kd.R_drew)); exact Kd.R_mono HO_5.out (fun _ hk => ⟨hk.1, ⟨hk.2.1, hk.2.2.1⟩⟩)⟩, ⟨by (with_reducible repeat (first | apply Kd.R_alloc | apply Kd.R_drewN | apply Kd.R_drew)); exact Kd.R_mono HO_19.out (fun _ hk => ⟨hk.1, ⟨hk.2.1, hk.2.2.1⟩⟩)⟩, ⟨by (with_reducible repeat (first | refine blk_drewN ?_ _ | refine blk_drew ?_ | refine blk_alloc ?_ _)); exact BK1434.out⟩, ⟨by (with_reducible repeat (first | refine blk_drewN ?_ _ | refine blk_drew ?_ | refine blk_alloc ?_ _)); exact BK1435.out⟩, ⟨by (with_reducible repeat (first | refine blk_drewN ?_ _ | refine blk_drew ?_ | refine blk_alloc ?_ _)); exact BK1440.out⟩, ⟨by (with_reducible repeat (first | refine blk_drewN ?_ _ | refine blk_drew ?_ | refine blk_alloc ?_ _)); exact BK1441.out⟩, ⟨by repeat (first | (with_reducible first | exact HB.out | apply below_alloc | apply pw_below_drewN | apply below_drew1 | refine below_set ?_ GE1434.out | refine below_set ?_ GE1435.out | refine below_set ?_ GE1440.out | refine below_set ?_ GE1441.out | refine below_set ?_ GE1452.out) | exact HB.out)⟩⟩
     ·
      rw [if_neg c25] at H
      exact absurd H (by simp)
    ·
     rw [if_neg c24] at H
     exact absurd H (by simp)
   ·
    rw [if_neg c23] at H
    have c23b0 : decide (x21_1 < (t1445.length : Int)) = false := decide_eq_false c23
    clear c23
    replace H := Option.bind_eq_some_iff.mp H
    obtain ⟨⟨t1448, t1449, t1450⟩, A520, H⟩ := H
    replace H : (some (t1448, t1449, t1450)) = some (r1, r2, r3) := H
    have A52 := Aside0.mk A520
    clear A520
    simp only [Option.some.injEq, Prod.mk.injEq] at H
    obtain ⟨rfl, rfl, rfl⟩ := H
    obtain ⟨Ao53, co53, eo53⟩ := Kd.R_slice HO_5.out
    subst eo53
    go_wp2_with (first | ((with_reducible refine gate_callee (f := 130) rfl ?_); refine goesL_ (some 36) rfl rfl Try.func130 (by kernel_rfl) rfl #[.slice Ao53 x5_1.length co53] rfl (by (try simp only [List.map_toArray, List.map_cons, List.map_nil]); first | done | rfl | (simp only [List.length_drop, List.length_take]; rfl)) ?_; (with_reducible refine (impl_latticeOf.calls k1 _ _ x5_1 t1448 t1449 t1450 _ ?side1 ?side2 A52.out).mono ?_); (case side1 => repeat (first | exact (Kd.R_reads' HO_5.out).2.2 | (with_reducible refine Kd.C_alloc ?_ _) | (with_reducible refine Kd.C_drewN ?_ _) | (with_reducible refine Kd.C_drew ?_))); (case side2 => exact (Kd.R_reads' HO_5.out).2.1); rintro e w54 ⟨rfl, hb⟩; refine ⟨_, rfl, ?_⟩; have n0_ := Aside0.mk (Kd.R_below (by (with_reducible repeat (first | apply Kd.R_alloc | apply Kd.R_drewN | apply Kd.R_drew)); exact HO_5.out) hb); have n1_ := Aside0.mk (Kd.R_below (by (with_reducible repeat (first | apply Kd.R_alloc | apply Kd.R_drewN | apply Kd.R_drew)); exact HO_19.out) hb); have n2_ := Aside0.mk (blk_below (g := gb1434) (o := .cells #[.int .i64 a0_0, .int .i64 a0_1, .int .i64 a0_2, .int .i64 a0_3, .slice A0_4 l0_4.length c0_4] 30 (0, 0)) (by (with_reducible repeat (first | refine blk_drewN ?_ _ | refine blk_drew ?_ | refine blk_alloc ?_ _)); exact BK1434.out) hb); have n3_ := Aside0.mk (blk_below (g := gb1435) (o := .cells #[.int .i64 0, .int .i64 0, .int .i64 0] 28 (0, 0)) (by (with_reducible repeat (first | refine blk_drewN ?_ _ | refine blk_drew ?_ | refine blk_alloc ?_ _)); exact BK1435.out) hb); have n4_ := Aside0.mk (blk_below (g := gb1440) (o := .cells #[.int .i64 t1436, .int .i64 t1437] 38 (0, 0)) (by (with_reducible repeat (first | refine blk_drewN ?_ _ | refine blk_drew ?_ | refine blk_alloc ?_ _)); exact BK1440.out) hb); have n5_ := Aside0.mk (blk_below (g := gb1441) (o := .cells #[.int .i64 t1438, .int .i64 t1439] 38 (0, 0)) (by (with_reducible repeat (first | refine blk_drewN ?_ _ | refine blk_drew ?_ | refine blk_alloc ?_ _)); exact BK1441.out) hb); have n6_ := Aside0.mk (below_step (by repeat (first | (with_reducible first | exact HB.out | apply below_alloc | apply pw_below_drewN | apply below_drew1 | refine below_set ?_ GE1434.out | refine below_set ?_ GE1435.out | refine below_set ?_ GE1440.out | refine below_set ?_ GE1441.out) | exact HB.out)) hb); clear HO_5; clear HO_19; clear BK1434; clear BK1435; clear BK1440; clear BK1441; clear HB; have HO_5 := n0_; have HO_19 := n1_; have BK1434 := n2_; have BK1435 := n3_; have BK1440 := n4_; have BK1441 := n5_; have HB := n6_; clear n0_ n1_ n2_ n3_ n4_ n5_ n6_; (try clear hb); (try clear hb2); (try clear hk); (try clear hi); have hnb55 := NB1435_1434.out; have hnc55 := NB1434_1435.out; have hnb56 := NB1435_1440.out; have hnc56 := NB1440_1435.out; have hnb57 := NB1435_1441.out; have hnc57 := NB1441_1435.out; have hcz58_0 : w54.cell? ⟨gb1435, 0, none⟩ = some (.int .i64 0) := (blk_cell BK1435.out 0).trans rfl; have hcz58_1 : w54.cell? ⟨gb1435, 1, none⟩ = some (.int .i64 0) := (blk_cell BK1435.out 1).trans rfl; have hcz58_2 : w54.cell? ⟨gb1435, 2, none⟩ = some (.int .i64 0) := (blk_cell BK1435.out 2).trans rfl; have hfz58_0 := blk_frozen BK1435.out 0; have hfz58_1 := blk_frozen BK1435.out 1; have hfz58_2 := blk_frozen BK1435.out 2))
    refine bodyPost_ret (results_cell_row rfl _ _ gb1435 28 #[.int .i64 t1448, .int .i64 t1449, .int .i64 t1450] (0, 0) _ rfl (by (with_reducible repeat (first | refine blk_drewN ?_ _ | refine blk_drew ?_ | refine blk_alloc ?_ _)); refine blk_put (cs := #[.int .i64 t1448, .int .i64 t1449, .int .i64 0]) ?_ 2 _ rfl; (with_reducible repeat (first | refine blk_drewN ?_ _ | refine blk_drew ?_ | refine blk_alloc ?_ _)); refine blk_put (cs := #[.int .i64 t1448, .int .i64 0, .int .i64 0]) ?_ 1 _ rfl; (with_reducible repeat (first | refine blk_drewN ?_ _ | refine blk_drew ?_ | refine blk_alloc ?_ _)); refine blk_put (cs := #[.int .i64 0, .int .i64 0, .int .i64 0]) ?_ 0 _ rfl; (with_reducible repeat (first | refine blk_drewN ?_ _ | refine blk_drew ?_ | refine blk_alloc ?_ _)); exact BK1435.out) Try.underlying28 rfl (by kernel_rfl)) rfl ?_
    exact ⟨by first | rfl | (simp [errW_none, errW_some] <;> rfl) | (simp [*, errW_none, errW_some] <;> rfl), by repeat (first | (with_reducible first | exact HB.out | apply below_alloc | apply pw_below_drewN | apply below_drew1 | refine below_set ?_ GE1434.out | refine below_set ?_ GE1435.out | refine below_set ?_ GE1440.out | refine below_set ?_ GE1441.out) | exact HB.out)⟩


/-! ### impl_rollLattice: function 107 -/
set_option maxHeartbeats 8000000 in
set_option maxRecDepth 100000 in
theorem impl_rollLattice.calls (k : Nat) (a0_0 : Int) (a0_1 : Int) (a0_2 : Int) (a0_3 : Int) (A0_4 : Option Addr) (c0_4 : Nat) (l0_4 : List Int) (r1 : Int) (r2 : Int) (r3 : Int) (r4 : Int) (w : World) (hr0_4 : Kd.C (Kd.int .i64) w A0_4 l0_4.length l0_4) (hc0_4 : l0_4.length ≤ c0_4) (h : impl_rollLattice.f k a0_0 a0_1 a0_2 a0_3 l0_4 = some (r1, r2, r3, r4)) :
  Calls Try.prog 107 #[.agg #[.int .i64 a0_0, .int .i64 a0_1, .int .i64 a0_2, .int .i64 a0_3, .slice A0_4 l0_4.length c0_4]] w fun e w' => e = .returned (.tuple #[.agg #[.int .i64 r1, .int .i64 r2, .int .i64 r3], .int .i64 r4]) ∧ Below w.heap.size w w' := by
 have hu30 := Try.underlying30
 have hu28 := Try.underlying28
 have HR0_4 := Aside0.mk hr0_4
 have HC0_4 := Aside0.mk hc0_4
 clear hr0_4 hc0_4
 have HB := Aside0.mk (Below.refl w.heap.size w)
 have H : ((impl_IsPattern.f a0_0 a0_1 a0_2 a0_3 l0_4).bind fun t1578 => (if t1578 = true then (if a0_0 = 0 then ((impl_Pattern_fullLattice.f k a0_0 a0_1 a0_2 a0_3 l0_4).bind fun bt1579 => (some (bt1579.1, bt1579.2.1, bt1579.2.2, 0))) else (some (0, 0, 0, 1))) else (some (0, 0, 0, 1)))) = some (r1, r2, r3, r4) := h
 clear h
 replace H := Option.bind_eq_some_iff.mp H
 obtain ⟨t1578, A20, H⟩ := H
 replace H : (if t1578 = true then (if a0_0 = 0 then ((impl_Pattern_fullLattice.f k a0_0 a0_1 a0_2 a0_3 l0_4).bind fun bt1579 => (some (bt1579.1, bt1579.2.1, bt1579.2.2, 0))) else (some (0, 0, 0, 1))) else (some (0, 0, 0, 1))) = some (r1, r2, r3, r4) := H
 have A2 := Aside0.mk A20
 clear A20
 by_cases c3 : t1578 = true
 ·
  subst c3
  have H1 : (if a0_0 = 0 then ((impl_Pattern_fullLattice.f k a0_0 a0_1 a0_2 a0_3 l0_4).bind fun bt1579 => (some (bt1579.1, bt1579.2.1, bt1579.2.2, 0))) else (some (0, 0, 0, 1))) = some (r1, r2, r3, r4) := by rw [if_pos rfl] at H; exact H
  clear H
  have H := H1
  clear H1
  by_cases c4 : a0_0 = 0
  ·
   rw [if_pos c4] at H
   have c4b0 : (a0_0 == 0) = true := beq_iff_eq.mpr c4
   have c4b1 : (a0_0 != 0) = false := bne_eq_false_iff_eq.mpr c4
   clear c4
   replace H := Option.bind_eq_some_iff.mp H
   obtain ⟨⟨t1579, t1580, t1581⟩, A50, H⟩ := H
   replace H : (some (t1579, t1580, t1581, 0)) = some (r1, r2, r3, r4) := H
   have A5 := Aside0.mk A50
   clear A50
   simp only [Option.some.injEq, Prod.mk.injEq] at H
   obtain ⟨rfl, rfl, rfl, rfl⟩ := H
   go_enter Try.func107, Try.ntmps107
   go_wp2_with (first | ((with_reducible refine gate_dst (N := 1) rfl ?_); refine box_event ?hg (N := 1) ?hd (cs := #[.int .i64 a0_0, .int .i64 a0_1, .int .i64 a0_2, .int .i64 a0_3, .slice A0_4 l0_4.length c0_4]) (t := 30) ?hr ?_; (case hd => rfl); (case hg => rfl); (case hr => first | (go_simp; done) | (go_simp; rfl)); intro gb1576 hg w6 hbox hb; have n0_ := Aside0.mk (below_step (by repeat (first | (with_reducible first | exact HB.out | apply below_alloc | apply pw_below_drewN | apply below_drew1) | exact HB.out)) hb); have n1_ := Aside0.mk (hbox); have n2_ := Aside0.mk ((by rw [hg]; exact (below_size (by repeat (first | (with_reducible first | exact HB.out | apply below_alloc | apply pw_below_drewN | apply below_drew1) | exact HB.out))) : w.heap.size ≤ gb1576)); have n3_ := Aside0.mk ((by rw [hg]; exact (below_size (by repeat (first | (with_reducible first | exact HB.out | apply below_alloc | apply pw_below_drewN | apply below_drew1) | exact HB.out))) : w.heap.size ≤ gb1576)); clear HB; have HB := n0_; have BK1576 := n1_; have GW1576 := n2_; have GE1576 := n3_; clear n0_ n1_ n2_ n3_; clear hb hbox hg) | ((with_reducible refine gate_dst (N := 2) rfl ?_); refine box_event ?hg (N := 2) ?hd (cs := #[.int .i64 0, .int .i64 0, .int .i64 0]) (t := 28) ?hr ?_; (case hd => rfl); (case hg => rfl); (case hr => first | (go_simp; done) | (go_simp; rfl)); intro gb1577 hg w7 hbox hb; have n0_ := Aside0.mk (blk_below (g := gb1576) (o := .cells #[.int .i64 a0_0, .int .i64 a0_1, .int .i64 a0_2, .int .i64 a0_3, .slice A0_4 l0_4.length c0_4] 30 (0, 0)) (by (with_reducible repeat (first | refine blk_drewN ?_ _ | refine blk_drew ?_ | refine blk_alloc ?_ _)); exact BK1576.out) hb); have n1_ := Aside0.mk (below_step (by repeat (first | (with_reducible first | exact HB.out | apply below_alloc | apply pw_below_drewN | apply below_drew1 | refine below_set ?_ GE1576.out) | exact HB.out)) hb); have n2_ := Aside0.mk (hbox); have n3_ := Aside0.mk ((by rw [hg]; exact (below_size (by repeat (first | (with_reducible first | exact HB.out | apply below_alloc | apply pw_below_drewN | apply below_drew1 | refine below_set ?_ GE1576.out) | exact HB.out))) : w.heap.size ≤ gb1577)); have n4_ := Aside0.mk ((by rw [hg]; exact (below_size (by repeat (first | (with_reducible first | exact HB.out | apply below_alloc | apply pw_below_drewN | apply below_drew1 | refine below_set ?_ GE1576.out) | exact HB.out))) : w.heap.size ≤ gb1577)); have n5_ := Aside0.mk ((by rw [hg]; exact Nat.ne_of_lt (blk_lt (g := gb1576) (o := .cells #[.int .i64 a0_0, .int .i64 a0_1, .int .i64 a0_2, .int .i64 a0_3, .slice A0_4 l0_4.length c0_4] 30 (0, 0)) (by (with_reducible repeat (first | refine blk_drewN ?_ _ | refine blk_drew ?_ | refine blk_alloc ?_ _)); exact BK1576.out)) : gb1576 ≠ gb1577)); have n6_ := Aside0.mk ((by rw [hg]; exact Nat.ne_of_gt (blk_lt (g := gb1576) (o := .cells #[.int .i64 a0_0, .int .i64 a0_1, .int .i64 a0_2, .int .i64 a0_3, .slice A0_4 l0_4.length c0_4] 30 (0, 0)) (by (with_reducible repeat (first | refine blk_drewN ?_ _ | refine blk_drew ?_ | refine blk_alloc ?_ _)); exact BK1576.out)) : gb1577 ≠ gb1576)); clear BK1576; clear HB; have BK1576 := n0_; have HB := n1_; have BK1577 := n2_; have GW1577 := n3_; have GE1577 := n4_; have NB1576_1577 := n5_; have NB1577_1576 := n6_; clear n0_ n1_ n2_ n3_ n4_ n5_ n6_; clear hb hbox hg; have hnb8 := NB1576_1577.out; have hnc8 := NB1577_1576.out; have hcz9_0 : w7.cell? ⟨gb1576, 0, none⟩ = some (.int .i64 a0_0) := (blk_cell BK1576.out 0).trans rfl; have hcz9_1 : w7.cell? ⟨gb1576, 1, none⟩ = some (.int .i64 a0_1) := (blk_cell BK1576.out 1).trans rfl; have hcz9_2 : w7.cell? ⟨gb1576, 2, none⟩ = some (.int .i64 a0_2) := (blk_cell BK1576.out 2).trans rfl; have hcz9_3 : w7.cell? ⟨gb1576, 3, none⟩ = some (.int .i64 a0_3) := (blk_cell BK1576.out 3).trans rfl; have hcz9_4 : w7.cell? ⟨gb1576, 4, none⟩ = some (.slice A0_4 l0_4.length c0_4) := (blk_cell BK1576.out 4).trans rfl; have hfz9_0 := blk_frozen BK1576.out 0; have hfz9_1 := blk_frozen BK1576.out 1; have hfz9_2 := blk_frozen BK1576.out 2; have hfz9_3 := blk_frozen BK1576.out 3; have hfz9_4 := blk_frozen BK1576.out 4) | ((with_reducible refine gate_callee (f := 64) rfl ?_); refine goesL_ (some 5) rfl rfl Try.func64 (by kernel_rfl) rfl #[.agg #[.int .i64 a0_0, .int .i64 a0_1, .int .i64 a0_2, .int .i64 a0_3, .slice A0_4 l0_4.length c0_4]] rfl (by (try simp only [List.map_toArray, List.map_cons, List.map_nil]); first | done | rfl | (simp only [List.length_drop, List.length_take]; rfl)) ?_; (with_reducible refine (impl_IsPattern.calls a0_0 a0_1 a0_2 a0_3 _ _ l0_4 true _ ?side1 ?side2 A2.out).mono ?_); (case side1 => repeat (first | exact (Kd.C_below HR0_4.out HB.out) | (with_reducible refine Kd.C_alloc ?_ _) | (with_reducible refine Kd.C_drewN ?_ _) | (with_reducible refine Kd.C_drew ?_))); (case side2 => exact HC0_4.out); rintro e w10 ⟨rfl, hb⟩; refine ⟨_, rfl, ?_⟩; have n0_ := Aside0.mk (blk_below (g := gb1576) (o := .cells #[.int .i64 a0_0, .int .i64 a0_1, .int .i64 a0_2, .int .i64 a0_3, .slice A0_4 l0_4.length c0_4] 30 (0, 0)) (by (with_reducible repeat (first | refine blk_drewN ?_ _ | refine blk_drew ?_ | refine blk_alloc ?_ _)); exact BK1576.out) hb); have n1_ := Aside0.mk (blk_below (g := gb1577) (o := .cells #[.int .i64 0, .int .i64 0, .int .i64 0] 28 (0, 0)) (by (with_reducible repeat (first | refine blk_drewN ?_ _ | refine blk_drew ?_ | refine blk_alloc ?_ _)); exact BK1577.out) hb); have n2_ := Aside0.mk (below_step (by repeat (first | (with_reducible first | exact HB.out | apply below_alloc | apply pw_below_drewN | apply below_drew1 | refine below_set ?_ GE1576.out | refine below_set ?_ GE1577.out) | exact HB.out)) hb); clear BK1576; clear BK1577; clear HB; have BK1576 := n0_; have BK1577 := n1_; have HB := n2_; clear n0_ n1_ n2_; (try clear hb); (try clear hb2); (try clear hk); (try clear hi); have hcz11_0 : w10.cell? ⟨gb1576, 0, none⟩ = some (.int .i64 a0_0) := (blk_cell BK1576.out 0).trans rfl; have hcz11_1 : w10.cell? ⟨gb1576, 1, none⟩ = some (.int .i64 a0_1) := (blk_cell BK1576.out 1).trans rfl; have hcz11_2 : w10.cell? ⟨gb1576, 2, none⟩ = some (.int .i64 a0_2) := (blk_cell BK1576.out 2).trans rfl; have hcz11_3 : w10.cell? ⟨gb1576, 3, none⟩ = some (.int .i64 a0_3) := (blk_cell BK1576.out 3).trans rfl; have hcz11_4 : w10.cell? ⟨gb1576, 4, none⟩ = some (.slice A0_4 l0_4.length c0_4) := (blk_cell BK1576.out 4).trans rfl; have hfz11_0 := blk_frozen BK1576.out 0; have hfz11_1 := blk_frozen BK1576.out 1; have hfz11_2 := blk_frozen BK1576.out 2; have hfz11_3 := blk_frozen BK1576.out 3; have hfz11_4 := blk_frozen BK1576.out 4) | ((with_reducible refine gate_callee (f := 149) rfl ?_); refine goesL_ (some 14) rfl rfl Try.func149 (by kernel_rfl) rfl #[.agg #[.int .i64 a0_0, .int .i64 a0_1, .int .i64 a0_2, .int .i64 a0_3, .slice A0_4 l0_4.length c0_4]] rfl (by (try simp only [List.map_toArray, List.map_cons, List.map_nil]); first | done | rfl | (simp only [List.length_drop, List.length_take]; rfl)) ?_; (with_reducible refine (impl_Pattern_fullLattice.calls k a0_0 a0_1 a0_2 a0_3 _ _ l0_4 t1579 t1580 t1581 _ ?side1 ?side2 A5.out).mono ?_); (case side1 => repeat (first | exact (Kd.C_below HR0_4.out HB.out) | (with_reducible refine Kd.C_alloc ?_ _) | (with_reducible refine Kd.C_drewN ?_ _) | (with_reducible refine Kd.C_drew ?_))); (case side2 => exact HC0_4.out); rintro e w12 ⟨rfl, hb⟩; refine ⟨_, rfl, ?_⟩; have n0_ := Aside0.mk (blk_below (g := gb1576) (o := .cells #[.int .i64 a0_0, .int .i64 a0_1, .int .i64 a0_2, .int .i64 a0_3, .slice A0_4 l0_4.length c0_4] 30 (0, 0)) (by (with_reducible repeat (first | refine blk_drewN ?_ _ | refine blk_drew ?_ | refine blk_alloc ?_ _)); exact BK1576.out) hb); have n1_ := Aside0.mk (blk_below (g := gb1577) (o := .cells #[.int .i64 0, .int .i64 0, .int .i64 0] 28 (0, 0)) (by (with_reducible repeat (first | refine blk_drewN ?_ _ | refine blk_drew ?_ | refine blk_alloc ?_ _)); exact BK1577.out) hb); have n2_ := Aside0.mk (below_step (by repeat (first | (with_reducible first | exact HB.out | apply below_alloc | apply pw_below_drewN | apply below_drew1 | refine below_set ?_ GE1576.out | refine below_set ?_ GE1577.out) | exact HB.out)) hb); clear BK1576; clear BK1577; clear HB; have BK1576 := n0_; have BK1577 := n1_; have HB := n2_; clear n0_ n1_ n2_; (try clear hb); (try clear hb2); (try clear hk); (try clear hi); have hcz13_0 : w12.cell? ⟨gb1577, 0, none⟩ = some (.int .i64 0) := (blk_cell BK1577.out 0).trans rfl; have hcz13_1 : w12.cell? ⟨gb1577, 1, none⟩ = some (.int .i64 0) := (blk_cell BK1577.out 1).trans rfl; have hcz13_2 : w12.cell? ⟨gb1577, 2, none⟩ = some (.int .i64 0) := (blk_cell BK1577.out 2).trans rfl; have hfz13_0 := blk_frozen BK1577.out 0; have hfz13_1 := blk_frozen BK1577.out 1; have hfz13_2 := blk_frozen BK1577.out 2))
   refine bodyPost_ret (results_ct rfl _ _ gb1577 28 #[.int .i64 t1579, .int .i64 t1580, .int .i64 t1581] (0, 0) _ rfl (by (with_reducible repeat (first | refine blk_drewN ?_ _ | refine blk_drew ?_ | refine blk_alloc ?_ _)); refine blk_put (cs := #[.int .i64 t1579, .int .i64 t1580, .int .i64 0]) ?_ 2 _ rfl; (with_reducible repeat (first | refine blk_drewN ?_ _ | refine blk_drew ?_ | refine blk_alloc ?_ _)); refine blk_put (cs := #[.int .i64 t1579, .int .i64 0, .int .i64 0]) ?_ 1 _ rfl; (with_reducible repeat (first | refine blk_drewN ?_ _ | refine blk_drew ?_ | refine blk_alloc ?_ _)); refine blk_put (cs := #[.int .i64 0, .int .i64 0, .int .i64 0]) ?_ 0 _ rfl; (with_reducible repeat (first | refine blk_drewN ?_ _ | refine blk_drew ?_ | refine blk_alloc ?_ _)); exact BK1577.out) Try.underlying28 rfl (by kernel_rfl)) rfl ?_
   exact ⟨by first | rfl | (simp [errW_none, errW_some] <;> rfl) | (simp [*, errW_none, errW_some] <;> rfl), by repeat (first | (with_reducible first | exact HB.out | apply below_alloc | apply pw_below_drewN | apply below_drew1 | refine below_set ?_ GE1576.out | refine below_set ?_ GE1577.out) | exact HB.out)⟩
  ·
   rw [if_neg c4] at H
   have c4b0 : (a0_0 == 0) = false := beq_eq_false_iff_ne.mpr c4
   have c4b1 : (a0_0 != 0) = true := bne_iff_ne.mpr c4
   simp only [Option.some.injEq, Prod.mk.injEq] at H
   obtain ⟨rfl, rfl, rfl, rfl⟩ := H
   go_enter Try.func107, Try.ntmps107
   go_wp2_with (first | ((with_reducible refine gate_dst (N := 1) rfl ?_); refine box_event ?hg (N := 1) ?hd (cs := #[.int .i64 a0_0, .int .i64 a0_1, .int .i64 a0_2, .int .i64 a0_3, .slice A0_4 l0_4.length c0_4]) (t := 30) ?hr ?_; (case hd => rfl); (case hg => rfl); (case hr => first | (go_simp; done) | (go_simp; rfl)); intro gb1576 hg w14 hbox hb; have n0_ := Aside0.mk (below_step (by repeat (first | (with_reducible first | exact HB.out | apply below_alloc | apply pw_below_drewN | apply below_drew1) | exact HB.out)) hb); have n1_ := Aside0.mk (hbox); have n2_ := Aside0.mk ((by rw [hg]; exact (below_size (by repeat (first | (with_reducible first | exact HB.out | apply below_alloc | apply pw_below_drewN | apply below_drew1) | exact HB.out))) : w.heap.size ≤ gb1576)); have n3_ := Aside0.mk ((by rw [hg]; exact (below_size (by repeat (first | (with_reducible first | exact HB.out | apply below_alloc | apply pw_below_drewN | apply below_drew1) | exact HB.out))) : w.heap.size ≤ gb1576)); clear HB; have HB := n0_; have BK1576 := n1_; have GW1576 := n2_; have GE1576 := n3_; clear n0_ n1_ n2_ n3_; clear hb hbox hg) | ((with_reducible refine gate_dst (N := 2) rfl ?_); refine box_event ?hg (N := 2) ?hd (cs := #[.int .i64 0, .int .i64 0, .int .i64 0]) (t := 28) ?hr ?_; (case hd => rfl); (case hg => rfl); (case hr => first | (go_simp; done) | (go_simp; rfl)); intro gb1577 hg w15 hbox hb; have n0_ := Aside0.mk (blk_below (g := gb1576) (o := .cells #[.int .i64 a0_0, .int .i64 a0_1, .int .i64 a0_2, .int .i64 a0_3, .slice A0_4 l0_4.length c0_4] 30 (0, 0)) (by (with_reducible repeat (first | refine blk_drewN ?_ _ | refine blk_drew ?_ | refine blk_alloc ?_ _)); exact BK1576.out) hb); have n1_ := Aside0.mk (below_step (by repeat (first | (with_reducible first | exact HB.out | apply below_alloc | apply pw_below_drewN | apply below_drew1 | refine below_set ?_ GE1576.out) | exact HB.out)) hb); have n2_ := Aside0.mk (hbox); have n3_ := Aside0.mk ((by rw [hg]; exact (below_size (by repeat (first | (with_reducible first | exact HB.out | apply below_alloc | apply pw_below_drewN | apply below_drew1 | refine below_set ?_ GE1576.out) | exact HB.out))) : w.heap.size ≤ gb1577)); have n4_ := Aside0.mk ((by rw [hg]; exact (below_size (by repeat (first | (with_reducible first | exact HB.out | apply below_alloc | apply pw_below_drewN | apply below_drew1 | refine below_set ?_ GE1576.out) | exact HB.out))) : w.heap.size ≤ gb1577)); have n5_ := Aside0.mk ((by rw [hg]; exact Nat.ne_of_lt (blk_lt (g := gb1576) (o := .cells #[.int .i64 a0_0, .int .i64 a0_1, .int .i64 a0_2, .int .i64 a0_3, .slice A0_4 l0_4.length c0_4] 30 (0, 0)) (by (with_reducible repeat (first | refine blk_drewN ?_ _ | refine blk_drew ?_ | refine blk_alloc ?_ _)); exact BK1576.out)) : gb1576 ≠ gb1577)); have n6_ := Aside0.mk ((by rw [hg]; exact Nat.ne_of_gt (blk_lt (g := gb1576) (o := .cells #[.int .i64 a0_0, .int .i64 a0_1, .int .i64 a0_2, .int .i64 a0_3, .slice A0_4 l0_4.length c0_4] 30 (0, 0)) (by (with_reducible repeat (first | refine blk_drewN ?_ _ | refine blk_drew ?_ | refine blk_alloc ?_ _)); exact BK1576.out)) : gb1577 ≠ gb1576)); clear BK1576; clear HB; have BK1576 := n0_; have HB := n1_; have BK1577 := n2_; have GW1577 := n3_; have GE1577 := n4_; have NB1576_1577 := n5_; have NB1577_1576 := n6_; clear n0_ n1_ n2_ n3_ n4_ n5_ n6_; clear hb hbox hg; have hnb16 := NB1576_1577.out; have hnc16 := NB1577_1576.out; have hcz17_0 : w15.cell? ⟨gb1576, 0, none⟩ = some (.int .i64 a0_0) := (blk_cell BK1576.out 0).trans rfl; have hcz17_1 : w15.cell? ⟨gb1576, 1, none⟩ = some (.int .i64 a0_1) := (blk_cell BK1576.out 1).trans rfl; have hcz17_2 : w15.cell? ⟨gb1576, 2, none⟩ = some (.int .i64 a0_2) := (blk_cell BK1576.out 2).trans rfl; have hcz17_3 : w15.cell? ⟨gb1576, 3, none⟩ = some (.int .i64 a0_3) := (blk_cell BK1576.out 3).trans rfl; have hcz17_4 : w15.cell? ⟨gb1576, 4, none⟩ = some (.slice A0_4 l0_4.length c0_4) := (blk_cell BK1576.out 4).trans rfl; have hfz17_0 := blk_frozen BK1576.out 0; have hfz17_1 := blk_frozen BK1576.out 1; have hfz17_2 := blk_frozen BK1576.out 2; have hfz17_3 := blk_frozen BK1576.out 3; have hfz17_4 := blk_frozen BK1576.out 4) | ((with_reducible refine gate_callee (f := 64) rfl ?_); refine goesL_ (some 5) rfl rfl Try.func64 (by kernel_rfl) rfl #[.agg #[.int .i64 a0_0, .int .i64 a0_1, .int .i64 a0_2, .int .i64 a0_3, .slice A0_4 l0_4.length c0_4]] rfl (by (try simp only [List.map_toArray, List.map_cons, List.map_nil]); first | done | rfl | (simp only [List.length_drop, List.length_take]; rfl)) ?_; (with_reducible refine (impl_IsPattern.calls a0_0 a0_1 a0_2 a0_3 _ _ l0_4 true _ ?side1 ?side2 A2.out).mono ?_); (case side1 => repeat (first | exact (Kd.C_below HR0_4.out HB.out) | (with_reducible refine Kd.C_alloc ?_ _) | (with_reducible refine Kd.C_drewN ?_ _) | (with_reducible refine Kd.C_drew ?_))); (case side2 => exact HC0_4.out); rintro e w18 ⟨rfl, hb⟩; refine ⟨_, rfl, ?_⟩; have n0_ := Aside0.mk (blk_below (g := gb1576) (o := .cells #[.int .i64 a0_0, .int .i64 a0_1, .int .i64 a0_2, .int .i64 a0_3, .slice A0_4 l0_4.length c0_4] 30 (0, 0)) (by (with_reducible repeat (first | refine blk_drewN ?_ _ | refine blk_drew ?_ | refine blk_alloc ?_ _)); exact BK1576.out) hb); have n1_ := Aside0.mk (blk_below (g := gb1577) (o := .cells #[.int .i64 0, .int .i64 0, .int .i64 0] 28 (0, 0)) (by (with_reducible repeat (first | refine blk_drewN ?_ _ | refine blk_drew ?_ | refine blk_alloc ?_ _)); exact BK1577.out) hb); have n2_ := Aside0.mk (below_step (by repeat (first | (with_reducible first | exact HB.out | apply below_alloc | apply pw_below_drewN | apply below_drew1 | refine below_set ?_ GE1576.out | refine below_set ?_ GE1577.out) | exact HB.out)) hb); clear BK1576; clear BK1577; clear HB; have BK1576 := n0_; have BK1577 := n1_; have HB := n2_; clear n0_ n1_ n2_; (try clear hb); (try clear hb2); (try clear hk); (try clear hi); have hcz19_0 : w18.cell? ⟨gb1576, 0, none⟩ = some (.int .i64 a0_0) := (blk_cell BK1576.out 0).trans rfl; have hcz19_1 : w18.cell? ⟨gb1576, 1, none⟩ = some (.int .i64 a0_1) := (blk_cell BK1576.out 1).trans rfl; have hcz19_2 : w18.cell? ⟨gb1576, 2, none⟩ = some (.int .i64 a0_2) := (blk_cell BK1576.out 2).trans rfl; have hcz19_3 : w18.cell? ⟨gb1576, 3, none⟩ = some (.int .i64 a0_3) := (blk_cell BK1576.out 3).trans rfl; have hcz19_4 : w18.cell? ⟨gb1576, 4, none⟩ = some (.slice A0_4 l0_4.length c0_4) := (blk_cell BK1576.out 4).trans rfl; have hfz19_0 := blk_frozen BK1576.out 0; have hfz19_1 := blk_frozen BK1576.out 1; have hfz19_2 := blk_frozen BK1576.out 2; have hfz19_3 := blk_frozen BK1576.out 3; have hfz19_4 := blk_frozen BK1576.out 4; have hcz20_0 : w18.cell? ⟨gb1577, 0, none⟩ = some (.int .i64 0) := (blk_cell BK1577.out 0).trans rfl; have hcz20_1 : w18.cell? ⟨gb1577, 1, none⟩ = some (.int .i64 0) := (blk_cell BK1577.out 1).trans rfl; have hcz20_2 : w18.cell? ⟨gb1577, 2, none⟩ = some (.int .i64 0) := (blk_cell BK1577.out 2).trans rfl; have hfz20_0 := blk_frozen BK1577.out 0; have hfz20_1 := blk_frozen BK1577.out 1; have hfz20_2 := blk_frozen BK1577.out 2))
   refine bodyPost_ret (results_ct rfl _ _ gb1577 28 #[.int .i64 0, .int .i64 0, .int .i64 0] (0, 0) _ rfl (by (with_reducible repeat (first | refine blk_drewN ?_ _ | refine blk_drew ?_ | refine blk_alloc ?_ _)); refine blk_put (cs := #[.int .i64 0, .int .i64 0, .int .i64 0]) ?_ 2 _ rfl; (with_reducible repeat (first | refine blk_drewN ?_ _ | refine blk_drew ?_ | refine blk_alloc ?_ _)); refine blk_put (cs := #[.int .i64 0, .int .i64 0, .int .i64 0]) ?_ 1 _ rfl; (with_reducible repeat (first | refine blk_drewN ?_ _ | refine blk_drew ?_ | refine blk_alloc ?_ _)); refine blk_put (cs := #[.int .i64 0, .int .i64 0, .int .i64 0]) ?_ 0 _ rfl; (with_reducible repeat (first | refine blk_drewN ?_ _ | refine blk_drew ?_ | refine blk_alloc ?_ _)); exact BK1577.out) Try.underlying28 rfl (by kernel_rfl)) rfl ?_
   exact ⟨by first | rfl | (simp [errW_none, errW_some] <;> rfl) | (simp [*, errW_none, errW_some] <;> rfl), by repeat (first | (with_reducible first | exact HB.out | apply below_alloc | apply pw_below_drewN | apply below_drew1 | refine below_set ?_ GE1576.out | refine below_set ?_ GE1577.out) | exact HB.out)⟩
 ·
  replace c3 := Bool.eq_false_iff.mpr c3
  subst c3
  have H1 : (some (0, 0, 0, 1)) = some (r1, r2, r3, r4) := by rw [if_neg (show ¬ (false = true) by decide)] at H; exact H
  clear H
  have H := H1
  clear H1
  simp only [Option.some.injEq, Prod.mk.injEq] at H
  obtain ⟨rfl, rfl, rfl, rfl⟩ := H
  go_enter Try.func107, Try.ntmps107
  go_wp2_with (first | ((with_reducible refine gate_dst (N := 1) rfl ?_); refine box_event ?hg (N := 1) ?hd (cs := #[.int .i64 a0_0, .int .i64 a0_1, .int .i64 a0_2, .int .i64 a0_3, .slice A0_4 l0_4.length c0_4]) (t := 30) ?hr ?_; (case hd => rfl); (case hg => rfl); (case hr => first | (go_simp; done) | (go_simp; rfl)); intro gb1576 hg w21 hbox hb; have n0_ := Aside0.mk (below_step (by repeat (first | (with_reducible first | exact HB.out | apply below_alloc | apply pw_below_drewN | apply below_drew1) | exact HB.out)) hb); have n1_ := Aside0.mk (hbox); have n2_ := Aside0.mk ((by rw [hg]; exact (below_size (by repeat (first | (with_reducible first | exact HB.out | apply below_alloc | apply pw_below_drewN | apply below_drew1) | exact HB.out))) : w.heap.size ≤ gb1576)); have n3_ := Aside0.mk ((by rw [hg]; exact (below_size (by repeat (first | (with_reducible first | exact HB.out | apply below_alloc | apply pw_below_drewN | apply below_drew1) | exact HB.out))) : w.heap.size ≤ gb1576)); clear HB; have HB := n0_; have BK1576 := n1_; have GW1576 := n2_; have GE1576 := n3_; clear n0_ n1_ n2_ n3_; clear hb hbox hg) | ((with_reducible refine gate_dst (N := 2) rfl ?_); refine box_event ?hg (N := 2) ?hd (cs := #[.int .i64 0, .int .i64 0, .int .i64 0]) (t := 28) ?hr ?_; (case hd => rfl); (case hg => rfl); (case hr => first | (go_simp; done) | (go_simp; rfl)); intro gb1577 hg w22 hbox hb; have n0_ := Aside0.mk (blk_below (g := gb1576) (o := .cells #[.int .i64 a0_0, .int .i64 a0_1, .int .i64 a0_2, .int .i64 a0_3, .slice A0_4 l0_4.length c0_4] 30 (0, 0)) (by (with_reducible repeat (first | refine blk_drewN ?_ _ | refine blk_drew ?_ | refine blk_alloc ?_ _)); exact BK1576.out) hb); have n1_ := Aside0.mk (below_step (by repeat (first | (with_reducible first | exact HB.out | apply below_alloc | apply pw_below_drewN | apply below_drew1 | refine below_set ?_ GE1576.out) | exact HB.out)) hb); have n2_ := Aside0.mk (hbox); have n3_ := Aside0.mk ((by rw [hg]; exact (below_size (by repeat (first | (with_reducible first | exact HB.out | apply below_alloc | apply pw_below_drewN | apply below_drew1 | refine below_set ?_ GE1576.out) | exact HB.out))) : w.heap.size ≤ gb1577)); have n4_ := Aside0.mk ((by rw [hg]; exact (below_size (by repeat (first | (with_reducible first | exact HB.out | apply below_alloc | apply pw_below_drewN | apply below_drew1 | refine below_set ?_ GE1576.out) | exact HB.out))) : w.heap.size ≤ gb1577)); have n5_ := Aside0.mk ((by rw [hg]; exact Nat.ne_of_lt (blk_lt (g := gb1576) (o := .cells #[.int .i64 a0_0, .int .i64 a0_1, .int .i64 a0_2, .int .i64 a0_3, .slice A0_4 l0_4.length c0_4] 30 (0, 0)) (by (with_reducible repeat (first | refine blk_drewN ?_ _ | refine blk_drew ?_ | refine blk_alloc ?_ _)); exact BK1576.out)) : gb1576 ≠ gb1577)); have n6_ := Aside0.mk ((by rw [hg]; exact Nat.ne_of_gt (blk_lt (g := gb1576) (o := .cells #[.int .i64 a0_0, .int .i64 a0_1, .int .i64 a0_2, .int .i64 a0_3, .slice A0_4 l0_4.length c0_4] 30 (0, 0)) (by (with_reducible repeat (first | refine blk_drewN ?_ _ | refine blk_drew ?_ | refine blk_alloc ?_ _)); exact BK1576.out)) : gb1577 ≠ gb1576)); clear BK1576; clear HB; have BK1576 := n0_; have HB := n1_; have BK1577 := n2_; have GW1577 := n3_; have GE1577 := n4_; have NB1576_1577 := n5_; have NB1577_1576 := n6_; clear n0_ n1_ n2_ n3_ n4_ n5_ n6_; clear hb hbox hg; have hnb23 := NB1576_1577.out; have hnc23 := NB1577_1576.out; have hcz24_0 : w22.cell? ⟨gb1576, 0, none⟩ = some (.int .i64 a0_0) := (blk_cell BK1576.out 0).trans rfl; have hcz24_1 : w22.cell? ⟨gb1576, 1, none⟩ = some (.int .i64 a0_1) := (blk_cell BK1576.out 1).trans rfl; have hcz24_2 : w22.cell? ⟨gb1576, 2, none⟩ = some (.int .i64 a0_2) := (blk_cell BK1576.out 2).trans rfl; have hcz24_3 : w22.cell? ⟨gb1576, 3, none⟩ = some (.int .i64 a0_3) := (blk_cell BK1576.out 3).trans rfl; have hcz24_4 : w22.cell? ⟨gb1576, 4, none⟩ = some (.slice A0_4 l0_4.length c0_4) := (blk_cell BK1576.out 4).trans rfl; have hfz24_0 := blk_frozen BK1576.out 0; have hfz24_1 := blk_frozen BK1576.out 1; have hfz24_2 := blk_frozen BK1576.out 2; have hfz24_3 := blk_frozen BK1576.out 3; have hfz24_4 := blk_frozen BK1576.out 4) | ((with_reducible refine gate_callee (f := 64) rfl ?_); refine goesL_ (some 5) rfl rfl Try.func64 (by kernel_rfl) rfl #[.agg #[.int .i64 a0_0, .int .i64 a0_1, .int .i64 a0_2, .int .i64 a0_3, .slice A0_4 l0_4.length c0_4]] rfl (by (try simp only [List.map_toArray, List.map_cons, List.map_nil]); first | done | rfl | (simp only [List.length_drop, List.length_take]; rfl)) ?_; (with_reducible refine (impl_IsPattern.calls a0_0 a0_1 a0_2 a0_3 _ _ l0_4 false _ ?side1 ?side2 A2.out).mono ?_); (case side1 => repeat (first | exact (Kd.C_below HR0_4.out HB.out) | (with_reducible refine Kd.C_alloc ?_ _) | (with_reducible refine Kd.C_drewN ?_ _) | (with_reducible refine Kd.C_drew ?_))); (case side2 => exact HC0_4.out); rintro e w25 ⟨rfl, hb⟩; refine ⟨_, rfl, ?_⟩; have n0_ := Aside0.mk (blk_below (g := gb1576) (o := .cells #[.int .i64 a0_0, .int .i64 a0_1, .int .i64 a0_2, .int .i64 a0_3, .slice A0_4 l0_4.length c0_4] 30 (0, 0)) (by (with_reducible repeat (first | refine blk_drewN ?_ _ | refine blk_drew ?_ | refine blk_alloc ?_ _)); exact BK1576.out) hb); have n1_ := Aside0.mk (blk_below (g := gb1577) (o := .cells #[.int .i64 0, .int .i64 0, .int .i64 0] 28 (0, 0)) (by (with_reducible repeat (first | refine blk_drewN ?_ _ | refine blk_drew ?_ | refine blk_alloc ?_ _)); exact BK1577.out) hb); have n2_ := Aside0.mk (below_step (by repeat (first | (with_reducible first | exact HB.out | apply below_alloc | apply pw_below_drewN | apply below_drew1 | refine below_set ?_ GE1576.out | refine below_set ?_ GE1577.out) | exact HB.out)) hb); clear BK1576; clear BK1577; clear HB; have BK1576 := n0_; have BK1577 := n1_; have HB := n2_; clear n0_ n1_ n2_; (try clear hb); (try clear hb2); (try clear hk); (try clear hi); have hcz26_0 : w25.cell? ⟨gb1577, 0, none⟩ = some (.int .i64 0) := (blk_cell BK1577.out 0).trans rfl; have hcz26_1 : w25.cell? ⟨gb1577, 1, none⟩ = some (.int .i64 0) := (blk_cell BK1577.out 1).trans rfl; have hcz26_2 : w25.cell? ⟨gb1577, 2, none⟩ = some (.int .i64 0) := (blk_cell BK1577.out 2).trans rfl; have hfz26_0 := blk_frozen BK1577.out 0; have hfz26_1 := blk_frozen BK1577.out 1; have hfz26_2 := blk_frozen BK1577.out 2))
  refine bodyPost_ret (results_ct rfl _ _ gb1577 28 #[.int .i64 0, .int .i64 0, .int .i64 0] (0, 0) _ rfl (by (with_reducible repeat (first | refine blk_drewN ?_ _ | refine blk_drew ?_ | refine blk_alloc ?_ _)); refine blk_put (cs := #[.int .i64 0, .int .i64 0, .int .i64 0]) ?_ 2 _ rfl; (with_reducible repeat (first | refine blk_drewN ?_ _ | refine blk_drew ?_ | refine blk_alloc ?_ _)); refine blk_put (cs := #[.int .i64 0, .int .i64 0, .int .i64 0]) ?_ 1 _ rfl; (with_reducible repeat (first | refine blk_drewN ?_ _ | refine blk_drew ?_ | refine blk_alloc ?_ _)); refine blk_put (cs := #[.int .i64 0, .int .i64 0, .int .i64 0]) ?_ 0 _ rfl; (with_reducible repeat (first | refine blk_drewN ?_ _ | refine blk_drew ?_ | refine blk_alloc ?_ _)); exact BK1577.out) Try.underlying28 rfl (by kernel_rfl)) rfl ?_
  exact ⟨by first | rfl | (simp [errW_none, errW_some] <;> rfl) | (simp [*, errW_none, errW_some] <;> rfl), by repeat (first | (with_reducible first | exact HB.out | apply below_alloc | apply pw_below_drewN | apply below_drew1 | refine below_set ?_ GE1576.out | refine below_set ?_ GE1577.out) | exact HB.out)⟩


attribute [local go_sem high] eqA38
/-! ### impl_Lattice_has: function 155 -/
set_option maxHeartbeats 8000000 in
set_option maxRecDepth 100000 in
theorem impl_Lattice_has.calls (a0_0 : Int) (a0_1 : Int) (a0_2 : Int) (a1_0 : Int) (a1_1 : Int) (r : Bool) (w : World) (h : impl_Lattice_has.f a0_0 a0_1 a0_2 a1_0 a1_1 = some r) :
  Calls Try.prog 155 #[.agg #[.int .i64 a0_0, .int .i64 a0_1, .int .i64 a0_2], .agg #[.int .i64 a1_0, .int .i64 a1_1]] w fun e w' => e = .returned (.bool r) ∧ Below w.heap.size w w' := by
 have hu28 := Try.underlying28
 have hu38 := Try.underlying38
 have HB := Aside0.mk (Below.refl w.heap.size w)
 have H : ((impl_Lattice_reduce.f a0_0 a0_1 a0_2 a1_0 a1_1).bind fun bt1584 => (some (bt1584.1 == 0 && (bt1584.2 == 0)))) = some r := h
 clear h
 replace H := Option.bind_eq_some_iff.mp H
 obtain ⟨⟨t1584, t1585⟩, A30, H⟩ := H
 replace H : (some (t1584 == 0 && (t1585 == 0))) = some r := H
 have A3 := Aside0.mk A30
 clear A30
 obtain rfl := Option.some.inj H
 go_enter Try.func155, Try.ntmps155
 go_wp2_with (first | ((with_reducible refine gate_dst (N := 2) rfl ?_); refine box_event ?hg (N := 2) ?hd (cs := #[.int .i64 a0_0, .int .i64 a0_1, .int .i64 a0_2]) (t := 28) ?hr ?_; (case hd => rfl); (case hg => rfl); (case hr => first | (go_simp; done) | (go_simp; rfl)); intro gb1582 hg w4 hbox hb; have n0_ := Aside0.mk (below_step (by repeat (first | (with_reducible first | exact HB.out | apply below_alloc | apply pw_below_drewN | apply below_drew1) | exact HB.out)) hb); have n1_ := Aside0.mk (hbox); have n2_ := Aside0.mk ((by rw [hg]; exact (below_size (by repeat (first | (with_reducible first | exact HB.out | apply below_alloc | apply pw_below_drewN | apply below_drew1) | exact HB.out))) : w.heap.size ≤ gb1582)); have n3_ := Aside0.mk ((by rw [hg]; exact (below_size (by repeat (first | (with_reducible first | exact HB.out | apply below_alloc | apply pw_below_drewN | apply below_drew1) | exact HB.out))) : w.heap.size ≤ gb1582)); clear HB; have HB := n0_; have BK1582 := n1_; have GW1582 := n2_; have GE1582 := n3_; clear n0_ n1_ n2_ n3_; clear hb hbox hg) | ((with_reducible refine gate_dst (N := 3) rfl ?_); refine box_event ?hg (N := 3) ?hd (cs := #[.int .i64 a1_0, .int .i64 a1_1]) (t := 38) ?hr ?_; (case hd => rfl); (case hg => rfl); (case hr => first | (go_simp; done) | (go_simp; rfl)); intro gb1583 hg w5 hbox hb; have n0_ := Aside0.mk (blk_below (g := gb1582) (o := .cells #[.int .i64 a0_0, .int .i64 a0_1, .int .i64 a0_2] 28 (0, 0)) (by (with_reducible repeat (first | refine blk_drewN ?_ _ | refine blk_drew ?_ | refine blk_alloc ?_ _)); exact BK1582.out) hb); have n1_ := Aside0.mk (below_step (by repeat (first | (with_reducible first | exact HB.out | apply below_alloc | apply pw_below_drewN | apply below_drew1 | refine below_set ?_ GE1582.out) | exact HB.out)) hb); have n2_ := Aside0.mk (hbox); have n3_ := Aside0.mk ((by rw [hg]; exact (below_size (by repeat (first | (with_reducible first | exact HB.out | apply below_alloc | apply pw_below_drewN | apply below_drew1 | refine below_set ?_ GE1582.out) | exact HB.out))) : w.heap.size ≤ gb1583)); have n4_ := Aside0.mk ((by rw [hg]; exact (below_size (by repeat (first | (with_reducible first | exact HB.out | apply below_alloc | apply pw_below_drewN | apply below_drew1 | refine below_set ?_ GE1582.out) | exact HB.out))) : w.heap.size ≤ gb1583)); have n5_ := Aside0.mk ((by rw [hg]; exact Nat.ne_of_lt (blk_lt (g := gb1582) (o := .cells #[.int .i64 a0_0, .int .i64 a0_1, .int .i64 a0_2] 28 (0, 0)) (by (with_reducible repeat (first | refine blk_drewN ?_ _ | refine blk_drew ?_ | refine blk_alloc ?_ _)); exact BK1582.out)) : gb1582 ≠ gb1583)); have n6_ := Aside0.mk ((by rw [hg]; exact Nat.ne_of_gt (blk_lt (g := gb1582) (o := .cells #[.int .i64 a0_0, .int .i64 a0_1, .int .i64 a0_2] 28 (0, 0)) (by (with_reducible repeat (first | refine blk_drewN ?_ _ | refine blk_drew ?_ | refine blk_alloc ?_ _)); exact BK1582.out)) : gb1583 ≠ gb1582)); clear BK1582; clear HB; have BK1582 := n0_; have HB := n1_; have BK1583 := n2_; have GW1583 := n3_; have GE1583 := n4_; have NB1582_1583 := n5_; have NB1583_1582 := n6_; clear n0_ n1_ n2_ n3_ n4_ n5_ n6_; clear hb hbox hg; have hnb6 := NB1582_1583.out; have hnc6 := NB1583_1582.out; have hcz7_0 : w5.cell? ⟨gb1582, 0, none⟩ = some (.int .i64 a0_0) := (blk_cell BK1582.out 0).trans rfl; have hcz7_1 : w5.cell? ⟨gb1582, 1, none⟩ = some (.int .i64 a0_1) := (blk_cell BK1582.out 1).trans rfl; have hcz7_2 : w5.cell? ⟨gb1582, 2, none⟩ = some (.int .i64 a0_2) := (blk_cell BK1582.out 2).trans rfl; have hfz7_0 := blk_frozen BK1582.out 0; have hfz7_1 := blk_frozen BK1582.out 1; have hfz7_2 := blk_frozen BK1582.out 2; have hcz8_0 : w5.cell? ⟨gb1583, 0, none⟩ = some (.int .i64 a1_0) := (blk_cell BK1583.out 0).trans rfl; have hcz8_1 : w5.cell? ⟨gb1583, 1, none⟩ = some (.int .i64 a1_1) := (blk_cell BK1583.out 1).trans rfl; have hfz8_0 := blk_frozen BK1583.out 0; have hfz8_1 := blk_frozen BK1583.out 1) | ((with_reducible refine gate_callee (f := 124) rfl ?_); refine goesL_ (some 7) rfl rfl Try.func124 (by kernel_rfl) rfl #[.agg #[.int .i64 a0_0, .int .i64 a0_1, .int .i64 a0_2], .agg #[.int .i64 a1_0, .int .i64 a1_1]] rfl (by (try simp only [List.map_toArray, List.map_cons, List.map_nil]); first | done | rfl | (simp only [List.length_drop, List.length_take]; rfl)) ?_; (with_reducible refine (impl_Lattice_reduce.calls a0_0 a0_1 a0_2 a1_0 a1_1 t1584 t1585 _ A3.out).mono ?_); rintro e w9 ⟨rfl, hb⟩; refine ⟨_, rfl, ?_⟩; have n0_ := Aside0.mk (blk_below (g := gb1582) (o := .cells #[.int .i64 a0_0, .int .i64 a0_1, .int .i64 a0_2] 28 (0, 0)) (by (with_reducible repeat (first | refine blk_drewN ?_ _ | refine blk_drew ?_ | refine blk_alloc ?_ _)); exact BK1582.out) hb); have n1_ := Aside0.mk (blk_below (g := gb1583) (o := .cells #[.int .i64 a1_0, .int .i64 a1_1] 38 (0, 0)) (by (with_reducible repeat (first | refine blk_drewN ?_ _ | refine blk_drew ?_ | refine blk_alloc ?_ _)); exact BK1583.out) hb); have n2_ := Aside0.mk (below_step (by repeat (first | (with_reducible first | exact HB.out | apply below_alloc | apply pw_below_drewN | apply below_drew1 | refine below_set ?_ GE1582.out | refine below_set ?_ GE1583.out) | exact HB.out)) hb); clear BK1582; clear BK1583; clear HB; have BK1582 := n0_; have BK1583 := n1_; have HB := n2_; clear n0_ n1_ n2_; (try clear hb); (try clear hb2); (try clear hk); (try clear hi)))
 go_ret
 exact ⟨by first | rfl | (simp [errW_none, errW_some] <;> rfl) | (simp [*, errW_none, errW_some] <;> rfl), by repeat (first | (with_reducible first | exact HB.out | apply below_alloc | apply pw_below_drewN | apply below_drew1 | refine below_set ?_ GE1582.out | refine below_set ?_ GE1583.out) | exact HB.out)⟩


/-! ### impl_Lattice_multipleIn: function 154 -/
set_option maxHeartbeats 8000000 in
set_option maxRecDepth 100000 in
theorem impl_Lattice_multipleIn.calls (k : Nat) (a0_0 : Int) (a0_1 : Int) (a0_2 : Int) (a1_0 : Int) (a1_1 : Int) (r1 : Int) (r2 : Int) (w : World) (h : impl_Lattice_multipleIn.f k a0_0 a0_1 a0_2 a1_0 a1_1 = some (r1, r2)) :
  Calls Try.prog 154 #[.agg #[.int .i64 a0_0, .int .i64 a0_1, .int .i64 a0_2], .agg #[.int .i64 a1_0, .int .i64 a1_1]] w fun e w' => e = .returned (.agg #[.int .i64 r1, .int .i64 r2]) ∧ Below w.heap.size w w' := by
 have hu28 := Try.underlying28
 have hu38 := Try.underlying38
 have HB := Aside0.mk (Below.refl w.heap.size w)
 have H : (impl_Lattice_multipleIn.l0 k a0_0 a0_1 a0_2 a1_0 a1_1 a1_0 a1_1) = some (r1, r2) := h
 clear h
 have H' := Aside0.mk H
 clear H
 go_enter Try.func154, Try.ntmps154
 go_wp2_with (first | ((with_reducible refine gate_dst (N := 2) rfl ?_); refine box_event ?hg (N := 2) ?hd (cs := #[.int .i64 a0_0, .int .i64 a0_1, .int .i64 a0_2]) (t := 28) ?hr ?_; (case hd => rfl); (case hg => rfl); (case hr => first | (go_simp; done) | (go_simp; rfl)); intro gb1586 hg w3 hbox hb; have n0_ := Aside0.mk (below_step (by repeat (first | (with_reducible first | exact HB.out | apply below_alloc | apply pw_below_drewN | apply below_drew1) | exact HB.out)) hb); have n1_ := Aside0.mk (hbox); have n2_ := Aside0.mk ((by rw [hg]; exact (below_size (by repeat (first | (with_reducible first | exact HB.out | apply below_alloc | apply pw_below_drewN | apply below_drew1) | exact HB.out))) : w.heap.size ≤ gb1586)); have n3_ := Aside0.mk ((by rw [hg]; exact (below_size (by repeat (first | (with_reducible first | exact HB.out | apply below_alloc | apply pw_below_drewN | apply below_drew1) | exact HB.out))) : w.heap.size ≤ gb1586)); clear HB; have HB := n0_; have BK1586 := n1_; have GW1586 := n2_; have GE1586 := n3_; clear n0_ n1_ n2_ n3_; clear hb hbox hg) | ((with_reducible refine gate_dst (N := 3) rfl ?_); refine box_event ?hg (N := 3) ?hd (cs := #[.int .i64 a1_0, .int .i64 a1_1]) (t := 38) ?hr ?_; (case hd => rfl); (case hg => rfl); (case hr => first | (go_simp; done) | (go_simp; rfl)); intro gb1587 hg w4 hbox hb; have n0_ := Aside0.mk (blk_below (g := gb1586) (o := .cells #[.int .i64 a0_0, .int .i64 a0_1, .int .i64 a0_2] 28 (0, 0)) (by (with_reducible repeat (first | refine blk_drewN ?_ _ | refine blk_drew ?_ | refine blk_alloc ?_ _)); exact BK1586.out) hb); have n1_ := Aside0.mk (below_step (by repeat (first | (with_reducible first | exact HB.out | apply below_alloc | apply pw_below_drewN | apply below_drew1 | refine below_set ?_ GE1586.out) | exact HB.out)) hb); have n2_ := Aside0.mk (hbox); have n3_ := Aside0.mk ((by rw [hg]; exact (below_size (by repeat (first | (with_reducible first | exact HB.out | apply below_alloc | apply pw_below_drewN | apply below_drew1 | refine below_set ?_ GE1586.out) | exact HB.out))) : w.heap.size ≤ gb1587)); have n4_ := Aside0.mk ((by rw [hg]; exact (below_size (by repeat (first | (with_reducible first | exact HB.out | apply below_alloc | apply pw_below_drewN | apply below_drew1 | refine below_set ?_ GE1586.out) | exact HB.out))) : w.heap.size ≤ gb1587)); have n5_ := Aside0.mk ((by rw [hg]; exact Nat.ne_of_lt (blk_lt (g := gb1586) (o := .cells #[.int .i64 a0_0, .int .i64 a0_1, .int .i64 a0_2] 28 (0, 0)) (by (with_reducible repeat (first | refine blk_drewN ?_ _ | refine blk_drew ?_ | refine blk_alloc ?_ _)); exact BK1586.out)) : gb1586 ≠ gb1587)); have n6_ := Aside0.mk ((by rw [hg]; exact Nat.ne_of_gt (blk_lt (g := gb1586) (o := .cells #[.int .i64 a0_0, .int .i64 a0_1, .int .i64 a0_2] 28 (0, 0)) (by (with_reducible repeat (first | refine blk_drewN ?_ _ | refine blk_drew ?_ | refine blk_alloc ?_ _)); exact BK1586.out)) : gb1587 ≠ gb1586)); clear BK1586; clear HB; have BK1586 := n0_; have HB := n1_; have BK1587 := n2_; have GW1587 := n3_; have GE1587 := n4_; have NB1586_1587 := n5_; have NB1587_1586 := n6_; clear n0_ n1_ n2_ n3_ n4_ n5_ n6_; clear hb hbox hg) | ((with_reducible refine gate_dst (N := 4) rfl ?_); refine box_event ?hg (N := 4) ?hd (cs := #[.int .i64 0, .int .i64 0]) (t := 38) ?hr ?_; (case hd => rfl); (case hg => rfl); (case hr => first | (go_simp; done) | (go_simp; rfl)); intro gb1588 hg w5 hbox hb; have n0_ := Aside0.mk (blk_below (g := gb1586) (o := .cells #[.int .i64 a0_0, .int .i64 a0_1, .int .i64 a0_2] 28 (0, 0)) (by (with_reducible repeat (first | refine blk_drewN ?_ _ | refine blk_drew ?_ | refine blk_alloc ?_ _)); exact BK1586.out) hb); have n1_ := Aside0.mk (blk_below (g := gb1587) (o := .cells #[.int .i64 a1_0, .int .i64 a1_1] 38 (0, 0)) (by (with_reducible repeat (first | refine blk_drewN ?_ _ | refine blk_drew ?_ | refine blk_alloc ?_ _)); exact BK1587.out) hb); have n2_ := Aside0.mk (below_step (by repeat (first | (with_reducible first | exact HB.out | apply below_alloc | apply pw_below_drewN | apply below_drew1 | refine below_set ?_ GE1586.out | refine below_set ?_ GE1587.out) | exact HB.out)) hb); have n3_ := Aside0.mk (hbox); have n4_ := Aside0.mk ((by rw [hg]; exact (below_size (by repeat (first | (with_reducible first | exact HB.out | apply below_alloc | apply pw_below_drewN | apply below_drew1 | refine below_set ?_ GE1586.out | refine below_set ?_ GE1587.out) | exact HB.out))) : w.heap.size ≤ gb1588)); have n5_ := Aside0.mk ((by rw [hg]; exact (below_size (by repeat (first | (with_reducible first | exact HB.out | apply below_alloc | apply pw_below_drewN | apply below_drew1 | refine below_set ?_ GE1586.out | refine below_set ?_ GE1587.out) | exact HB.out))) : w.heap.size ≤ gb1588)); have n6_ := Aside0.mk ((by rw [hg]; exact Nat.ne_of_lt (blk_lt (g := gb1586) (o := .cells #[.int .i64 a0_0, .int .i64 a0_1, .int .i64 a0_2] 28 (0, 0)) (by (with_reducible repeat (first | refine blk_drewN ?_ _ | refine blk_drew ?_ | refine blk_alloc ?_ _)); exact BK1586.out)) : gb1586 ≠ gb1588)); have n7_ := Aside0.mk ((by rw [hg]; exact Nat.ne_of_gt (blk_lt (g := gb1586) (o := .cells #[.int .i64 a0_0, .int .i64 a0_1, .int .i64 a0_2] 28 (0, 0)) (by (with_reducible repeat (first | refine blk_drewN ?_ _ | refine blk_drew ?_ | refine blk_alloc ?_ _)); exact BK1586.out)) : gb1588 ≠ gb1586)); have n8_ := Aside0.mk ((by rw [hg]; exact Nat.ne_of_lt (blk_lt (g := gb1587) (o := .cells #[.int .i64 a1_0, .int .i64 a1_1] 38 (0, 0)) (by (with_reducible repeat (first | refine blk_drewN ?_ _ | refine blk_drew ?_ | refine blk_alloc ?_ _)); exact BK1587.out)) : gb1587 ≠ gb1588)); have n9_ := Aside0.mk ((by rw [hg]; exact Nat.ne_of_gt (blk_lt (g := gb1587) (o := .cells #[.int .i64 a1_0, .int .i64 a1_1] 38 (0, 0)) (by (with_reducible repeat (first | refine blk_drewN ?_ _ | refine blk_drew ?_ | refine blk_alloc ?_ _)); exact BK1587.out)) : gb1588 ≠ gb1587)); clear BK1586; clear BK1587; clear HB; have BK1586 := n0_; have BK1587 := n1_; have HB := n2_; have BK1588 := n3_; have GW1588 := n4_; have GE1588 := n5_; have NB1586_1588 := n6_; have NB1588_1586 := n7_; have NB1587_1588 := n8_; have NB1588_1587 := n9_; clear n0_ n1_ n2_ n3_ n4_ n5_ n6_ n7_ n8_ n9_; clear hb hbox hg; have hnb6 := NB1587_1586.out; have hnc6 := NB1586_1587.out; have hnb7 := NB1587_1588.out; have hnc7 := NB1588_1587.out; have hcz8_0 : w5.cell? ⟨gb1587, 0, none⟩ = some (.int .i64 a1_0) := (blk_cell BK1587.out 0).trans rfl; have hcz8_1 : w5.cell? ⟨gb1587, 1, none⟩ = some (.int .i64 a1_1) := (blk_cell BK1587.out 1).trans rfl; have hfz8_0 := blk_frozen BK1587.out 0; have hfz8_1 := blk_frozen BK1587.out 1) | ((with_reducible refine gate_dst (N := 5) rfl ?_); refine box_event ?hg (N := 5) ?hd (cs := #[.int .i64 0, .int .i64 0]) (t := 38) ?hr ?_; (case hd => rfl); (case hg => rfl); (case hr => first | (go_simp; done) | (go_simp; rfl)); intro gb1589 hg w9 hbox hb; have n0_ := Aside0.mk (blk_below (g := gb1586) (o := .cells #[.int .i64 a0_0, .int .i64 a0_1, .int .i64 a0_2] 28 (0, 0)) (by (with_reducible repeat (first | refine blk_drewN ?_ _ | refine blk_drew ?_ | refine blk_alloc ?_ _)); exact BK1586.out) hb); have n1_ := Aside0.mk (blk_below (g := gb1587) (o := .cells #[.int .i64 a1_0, .int .i64 a1_1] 38 (0, 0)) (by (with_reducible repeat (first | refine blk_drewN ?_ _ | refine blk_drew ?_ | refine blk_alloc ?_ _)); exact BK1587.out) hb); have n2_ := Aside0.mk (blk_below (g := gb1588) (o := .cells #[.int .i64 0, .int .i64 0] 38 (0, 0)) (by (with_reducible repeat (first | refine blk_drewN ?_ _ | refine blk_drew ?_ | refine blk_alloc ?_ _)); exact BK1588.out) hb); have n3_ := Aside0.mk (below_step (by repeat (first | (with_reducible first | exact HB.out | apply below_alloc | apply pw_below_drewN | apply below_drew1 | refine below_set ?_ GE1586.out | refine below_set ?_ GE1587.out | refine below_set ?_ GE1588.out) | exact HB.out)) hb); have n4_ := Aside0.mk (hbox); have n5_ := Aside0.mk ((by rw [hg]; exact (below_size (by repeat (first | (with_reducible first | exact HB.out | apply below_alloc | apply pw_below_drewN | apply below_drew1 | refine below_set ?_ GE1586.out | refine below_set ?_ GE1587.out | refine below_set ?_ GE1588.out) | exact HB.out))) : w.heap.size ≤ gb1589)); have n6_ := Aside0.mk ((by rw [hg]; exact (below_size (by repeat (first | (with_reducible first | exact HB.out | apply below_alloc | apply pw_below_drewN | apply below_drew1 | refine below_set ?_ GE1586.out | refine below_set ?_ GE1587.out | refine below_set ?_ GE1588.out) | exact HB.out))) : w.heap.size ≤ gb1589)); have n7_ := Aside0.mk ((by rw [hg]; exact Nat.ne_of_lt (blk_lt (g := gb1586) (o := .cells #[.int .i64 a0_0, .int .i64 a0_1, .int .i64 a0_2] 28 (0, 0)) (by (with_reducible repeat (first | refine blk_drewN ?_ _ | refine blk_drew ?_ | refine blk_alloc ?_ _)); exact BK1586.out)) : gb1586 ≠ gb1589)); have n8_ := Aside0.mk ((by rw [hg]; exact Nat.ne_of_gt (blk_lt (g := gb1586) (o := .cells #[.int .i64 a0_0, .int .i64 a0_1, .int .i64 a0_2] 28 (0, 0)) (by (with_reducible repeat (first | refine blk_drewN ?_ _ | refine blk_drew ?_ | refine blk_alloc ?_ _)); exact BK1586.out)) : gb1589 ≠ gb1586)); have n9_ := Aside0.mk ((by rw [hg]; exact Nat.ne_of_lt (blk_lt (g := gb1587) (o := .cells #[.int .i64 a1_0, .int .i64 a1_1] 38 (0, 0)) (by (with_reducible repeat (first | refine blk_drewN ?_ _ | refine blk_drew ?_ | refine blk_alloc ?_ _)); exact BK1587.out)) : gb1587 ≠ gb1589)); have n10_ := Aside0.mk ((by rw [hg]; exact Nat.ne_of_gt (blk_lt (g := gb1587) (o := .cells #[.int .i64 a1_0, .int .i64 a1_1] 38 (0, 0)) (by (with_reducible repeat (first | refine blk_drewN ?_ _ | refine blk_drew ?_ | refine blk_alloc ?_ _)); exact BK1587.out)) : gb1589 ≠ gb1587)); have n11_ := Aside0.mk ((by rw [hg]; exact Nat.ne_of_lt (blk_lt (g := gb1588) (o := .cells #[.int .i64 0, .int .i64 0] 38 (0, 0)) (by (with_reducible repeat (first | refine blk_drewN ?_ _ | refine blk_drew ?_ | refine blk_alloc ?_ _)); exact BK1588.out)) : gb1588 ≠ gb1589)); have n12_ := Aside0.mk ((by rw [hg]; exact Nat.ne_of_gt (blk_lt (g := gb1588) (o := .cells #[.int .i64 0, .int .i64 0] 38 (0, 0)) (by (with_reducible repeat (first | refine blk_drewN ?_ _ | refine blk_drew ?_ | refine blk_alloc ?_ _)); exact BK1588.out)) : gb1589 ≠ gb1588)); clear BK1586; clear BK1587; clear BK1588; clear HB; have BK1586 := n0_; have BK1587 := n1_; have BK1588 := n2_; have HB := n3_; have BK1589 := n4_; have GW1589 := n5_; have GE1589 := n6_; have NB1586_1589 := n7_; have NB1589_1586 := n8_; have NB1587_1589 := n9_; have NB1589_1587 := n10_; have NB1588_1589 := n11_; have NB1589_1588 := n12_; clear n0_ n1_ n2_ n3_ n4_ n5_ n6_ n7_ n8_ n9_ n10_ n11_ n12_; clear hb hbox hg; have hnb10 := NB1589_1586.out; have hnc10 := NB1586_1589.out; have hnb11 := NB1589_1587.out; have hnc11 := NB1587_1589.out; have hnb12 := NB1589_1588.out; have hnc12 := NB1588_1589.out; have hcz13_0 : w9.cell? ⟨gb1589, 0, none⟩ = some (.int .i64 0) := (blk_cell BK1589.out 0).trans rfl; have hcz13_1 : w9.cell? ⟨gb1589, 1, none⟩ = some (.int .i64 0) := (blk_cell BK1589.out 1).trans rfl; have hfz13_0 := blk_frozen BK1589.out 0; have hfz13_1 := blk_frozen BK1589.out 1))
 go_loopg [] k (fun kq w' => ∃ (x1590000_1 : Int) (x1590001_1 : Int), Aside0 (impl_Lattice_multipleIn.l0 kq a0_0 a0_1 a0_2 a1_0 a1_1 x1590000_1 x1590001_1 = some (r1, r2)) ∧ Aside0 (kq ≤ k) ∧ Aside0 (w'.heap[gb1586]? = some (.cells #[.int .i64 a0_0, .int .i64 a0_1, .int .i64 a0_2] 28 (0, 0))) ∧ Aside0 (w'.heap[gb1587]? = some (.cells #[.int .i64 a1_0, .int .i64 a1_1] 38 (0, 0))) ∧ Aside0 (w'.heap[gb1588]? = some (.cells #[.int .i64 0, .int .i64 0] 38 (0, 0))) ∧ Aside0 (w'.heap[gb1589]? = some (.cells #[.int .i64 x1590000_1, .int .i64 x1590001_1] 38 (0, 0))) ∧ Aside0 (Below w.heap.size w w'))
 case atStart => exact ⟨(a1_0), (a1_1), H', ⟨Nat.le_refl _⟩, ⟨by (with_reducible repeat (first | refine blk_drewN ?_ _ | refine blk_drew ?_ | refine blk_alloc ?_ _)); refine blk_far ?_ NB1586_1589.out _; (with_reducible repeat (first | refine blk_drewN ?_ _ | refine blk_drew ?_ | refine blk_alloc ?_ _)); refine blk_far ?_ NB1586_1589.out _; (with_reducible repeat (first | refine blk_drewN ?_ _ | refine blk_drew ?_ | refine blk_alloc ?_ _)); exact BK1586.out⟩, ⟨by (with_reducible repeat (first | refine blk_drewN ?_ _ | refine blk_drew ?_ | refine blk_alloc ?_ _)); refine blk_far ?_ NB1587_1589.out _; (with_reducible repeat (first | refine blk_drewN ?_ _ | refine blk_drew ?_ | refine blk_alloc ?_ _)); refine blk_far ?_ NB1587_1589.out _; (with_reducible repeat (first | refine blk_drewN ?_ _ | refine blk_drew ?_ | refine blk_alloc ?_ _)); exact BK1587.out⟩, ⟨by (with_reducible repeat (first | refine blk_drewN ?_ _ | refine blk_drew ?_ | refine blk_alloc ?_ _)); refine blk_far ?_ NB1588_1589.out _; (with_reducible repeat (first | refine blk_drewN ?_ _ | refine blk_drew ?_ | refine blk_alloc ?_ _)); refine blk_far ?_ NB1588_1589.out _; (with_reducible repeat (first | refine blk_drewN ?_ _ | refine blk_drew ?_ | refine blk_alloc ?_ _)); exact BK1588.out⟩, ⟨by (with_reducible repeat (first | refine blk_drewN ?_ _ | refine blk_drew ?_ | refine blk_alloc ?_ _)); refine blk_put (cs := #[.int .i64 a1_0, .int .i64 0]) ?_ 1 _ rfl; (with_reducible repeat (first | refine blk_drewN ?_ _ | refine blk_drew ?_ | refine blk_alloc ?_ _)); refine blk_put (cs := #[.int .i64 0, .int .i64 0]) ?_ 0 _ rfl; (with_reducible repeat (first | refine blk_drewN ?_ _ | refine blk_drew ?_ | refine blk_alloc ?_ _)); exact BK1589.out⟩, ⟨by repeat (first | (with_reducible first | exact HB.out | apply below_alloc | apply pw_below_drewN | apply below_drew1 | refine below_set ?_ GE1586.out | refine below_set ?_ GE1587.out | refine below_set ?_ GE1588.out | refine below_set ?_ GE1589.out) | exact HB.out)⟩⟩
 case round =>
  clear H'
  try clear c1
  try clear p2
  try clear c6
  try clear c7
  try clear c10
  try clear c11
  try clear c12
  try clear hcz13_0
  try clear hcz13_1
  try clear hcz8_0
  try clear hcz8_1
  try clear hfz13_0
  try clear hfz13_1
  try clear hfz8_0
  try clear hfz8_1
  obtain ⟨x1590000_1, x1590001_1, HA, HK1, BK1586, BK1587, BK1588, BK1589, HB⟩ := hrel
  cases gk with
  | zero => exact absurd HA.out (by simp [impl_Lattice_multipleIn.l0])
  | succ k1 =>
   have H := HA.out
   clear HA
   simp only [impl_Lattice_multipleIn.l0] at H
   replace H := Option.bind_eq_some_iff.mp H
   obtain ⟨t1590, A140, H⟩ := H
   replace H : (if t1590 = true then (some (x1590000_1, x1590001_1)) else ((impl_Vec_add.f x1590000_1 x1590001_1 a1_0 a1_1).bind fun bt1591 => (impl_Lattice_multipleIn.l0 k1 a0_0 a0_1 a0_2 a1_0 a1_1 bt1591.1 bt1591.2))) = some (r1, r2) := H
   have A14 := Aside0.mk A140
   clear A140
   by_cases c15 : t1590 = true
   ·
    subst c15
    have H1 : (some (x1590000_1, x1590001_1)) = some (r1, r2) := by rw [if_pos rfl] at H; exact H
    clear H
    have H := H1
    clear H1
    simp only [Option.some.injEq, Prod.mk.injEq] at H
    obtain ⟨rfl, rfl⟩ := H
    have hnb16 := NB1586_1587.out
    have hnc16 := NB1587_1586.out
    have hnb17 := NB1586_1588.out
    have hnc17 := NB1588_1586.out
    have hnb18 := NB1586_1589.out
    have hnc18 := NB1589_1586.out
    have hcz19_0 : wr.cell? ⟨gb1586, 0, none⟩ = some (.int .i64 a0_0) := (blk_cell BK1586.out 0).trans rfl
    have hcz19_1 : wr.cell? ⟨gb1586, 1, none⟩ = some (.int .i64 a0_1) := (blk_cell BK1586.out 1).trans rfl
    have hcz19_2 : wr.cell? ⟨gb1586, 2, none⟩ = some (.int .i64 a0_2) := (blk_cell BK1586.out 2).trans rfl
    have hfz19_0 := blk_frozen BK1586.out 0
    have hfz19_1 := blk_frozen BK1586.out 1
    have hfz19_2 := blk_frozen BK1586.out 2
    have hnb20 := NB1589_1587.out
    have hnc20 := NB1587_1589.out
    have hnb21 := NB1589_1588.out
    have hnc21 := NB1588_1589.out
    have hcz22_0 : wr.cell? ⟨gb1589, 0, none⟩ = some (.int .i64 x1590000_1) := (blk_cell BK1589.out 0).trans rfl
    have hcz22_1 : wr.cell? ⟨gb1589, 1, none⟩ = some (.int .i64 x1590001_1) := (blk_cell BK1589.out 1).trans rfl
    have hfz22_0 := blk_frozen BK1589.out 0
    have hfz22_1 := blk_frozen BK1589.out 1
    go_wp2_with (first | ((with_reducible refine gate_callee (f := 155) rfl ?_); refine goesL_ (some 9) rfl rfl Try.func155 (by kernel_rfl) rfl #[.agg #[.int .i64 a0_0, .int .i64 a0_1, .int .i64 a0_2], .agg #[.int .i64 x1590000_1, .int .i64 x1590001_1]] rfl (by (try simp only [List.map_toArray, List.map_cons, List.map_nil]); first | done | rfl | (simp only [List.length_drop, List.length_take]; rfl)) ?_; (with_reducible refine (impl_Lattice_has.calls a0_0 a0_1 a0_2 x1590000_1 x1590001_1 true _ A14.out).mono ?_); rintro e w23 ⟨rfl, hb⟩; refine ⟨_, rfl, ?_⟩; have n0_ := Aside0.mk (blk_below (g := gb1586) (o := .cells #[.int .i64 a0_0, .int .i64 a0_1, .int .i64 a0_2] 28 (0, 0)) (by (with_reducible repeat (first | refine blk_drewN ?_ _ | refine blk_drew ?_ | refine blk_alloc ?_ _)); exact BK1586.out) hb); have n1_ := Aside0.mk (blk_below (g := gb1587) (o := .cells #[.int .i64 a1_0, .int .i64 a1_1] 38 (0, 0)) (by (with_reducible repeat (first | refine blk_drewN ?_ _ | refine blk_drew ?_ | refine blk_alloc ?_ _)); exact BK1587.out) hb); have n2_ := Aside0.mk (blk_below (g := gb1588) (o := .cells #[.int .i64 0, .int .i64 0] 38 (0, 0)) (by (with_reducible repeat (first | refine blk_drewN ?_ _ | refine blk_drew ?_ | refine blk_alloc ?_ _)); exact BK1588.out) hb); have n3_ := Aside0.mk (blk_below (g := gb1589) (o := .cells #[.int .i64 x1590000_1, .int .i64 x1590001_1] 38 (0, 0)) (by (with_reducible repeat (first | refine blk_drewN ?_ _ | refine blk_drew ?_ | refine blk_alloc ?_ _)); exact BK1589.out) hb); have n4_ := Aside0.mk (below_step (by repeat (first | (with_reducible first | exact HB.out | apply below_alloc | apply pw_below_drewN | apply below_drew1 | refine below_set ?_ GE1586.out | refine below_set ?_ GE1587.out | refine below_set ?_ GE1588.out | refine below_set ?_ GE1589.out) | exact HB.out)) hb); clear BK1586; clear BK1587; clear BK1588; clear BK1589; clear HB; have BK1586 := n0_; have BK1587 := n1_; have BK1588 := n2_; have BK1589 := n3_; have HB := n4_; clear n0_ n1_ n2_ n3_ n4_; (try clear hb); (try clear hb2); (try clear hk); (try clear hi); have hcz24_0 : w23.cell? ⟨gb1589, 0, none⟩ = some (.int .i64 x1590000_1) := (blk_cell BK1589.out 0).trans rfl; have hcz24_1 : w23.cell? ⟨gb1589, 1, none⟩ = some (.int .i64 x1590001_1) := (blk_cell BK1589.out 1).trans rfl; have hfz24_0 := blk_frozen BK1589.out 0; have hfz24_1 := blk_frozen BK1589.out 1; have hnb25 := NB1588_1587.out; have hnc25 := NB1587_1588.out; have hcz26_0 : w23.cell? ⟨gb1588, 0, none⟩ = some (.int .i64 0) := (blk_cell BK1588.out 0).trans rfl; have hcz26_1 : w23.cell? ⟨gb1588, 1, none⟩ = some (.int .i64 0) := (blk_cell BK1588.out 1).trans rfl; have hfz26_0 := blk_frozen BK1588.out 0; have hfz26_1 := blk_frozen BK1588.out 1))
    refine bodyPost_ret (results_cell_row rfl _ _ gb1588 38 #[.int .i64 x1590000_1, .int .i64 x1590001_1] (0, 0) _ rfl (by (with_reducible repeat (first | refine blk_drewN ?_ _ | refine blk_drew ?_ | refine blk_alloc ?_ _)); refine blk_put (cs := #[.int .i64 x1590000_1, .int .i64 0]) ?_ 1 _ rfl; (with_reducible repeat (first | refine blk_drewN ?_ _ | refine blk_drew ?_ | refine blk_alloc ?_ _)); refine blk_put (cs := #[.int .i64 0, .int .i64 0]) ?_ 0 _ rfl; (with_reducible repeat (first | refine blk_drewN ?_ _ | refine blk_drew ?_ | refine blk_alloc ?_ _)); exact BK1588.out) Try.underlying38 rfl (by kernel_rfl)) rfl ?_
    exact ⟨by first | rfl | (simp [errW_none, errW_some] <;> rfl) | (simp [*, errW_none, errW_some] <;> rfl), by repeat (first | (with_reducible first | exact HB.out | apply below_alloc | apply pw_below_drewN | apply below_drew1 | refine below_set ?_ GE1586.out | refine below_set ?_ GE1587.out | refine below_set ?_ GE1588.out | refine below_set ?_ GE1589.out) | exact HB.out)⟩
   ·
    replace c15 := Bool.eq_false_iff.mpr c15
    subst c15
    have H1 : ((impl_Vec_add.f x1590000_1 x1590001_1 a1_0 a1_1).bind fun bt1591 => (impl_Lattice_multipleIn.l0 k1 a0_0 a0_1 a0_2 a1_0 a1_1 bt1591.1 bt1591.2)) = some (r1, r2) := by rw [if_neg (show ¬ (false = true) by decide)] at H; exact H
    clear H
    have H := H1
    clear H1
    replace H := Option.bind_eq_some_iff.mp H
    obtain ⟨⟨t1591, t1592⟩, A270, H⟩ := H
    replace H : (impl_Lattice_multipleIn.l0 k1 a0_0 a0_1 a0_2 a1_0 a1_1 t1591 t1592) = some (r1, r2) := H
    have A27 := Aside0.mk A270
    clear A270
    have H' := Aside0.mk H
    clear H
    have hnb28 := NB1586_1587.out
    have hnc28 := NB1587_1586.out
    have hnb29 := NB1586_1588.out
    have hnc29 := NB1588_1586.out
    have hnb30 := NB1586_1589.out
    have hnc30 := NB1589_1586.out
    have hcz31_0 : wr.cell? ⟨gb1586, 0, none⟩ = some (.int .i64 a0_0) := (blk_cell BK1586.out 0).trans rfl
    have hcz31_1 : wr.cell? ⟨gb1586, 1, none⟩ = some (.int .i64 a0_1) := (blk_cell BK1586.out 1).trans rfl
    have hcz31_2 : wr.cell? ⟨gb1586, 2, none⟩ = some (.int .i64 a0_2) := (blk_cell BK1586.out 2).trans rfl
    have hfz31_0 := blk_frozen BK1586.out 0
    have hfz31_1 := blk_frozen BK1586.out 1
    have hfz31_2 := blk_frozen BK1586.out 2
    have hnb32 := NB1589_1587.out
    have hnc32 := NB1587_1589.out
    have hnb33 := NB1589_1588.out
    have hnc33 := NB1588_1589.out
    have hcz34_0 : wr.cell? ⟨gb1589, 0, none⟩ = some (.int .i64 x1590000_1) := (blk_cell BK1589.out 0).trans rfl
    have hcz34_1 : wr.cell? ⟨gb1589, 1, none⟩ = some (.int .i64 x1590001_1) := (blk_cell BK1589.out 1).trans rfl
    have hfz34_0 := blk_frozen BK1589.out 0
    have hfz34_1 := blk_frozen BK1589.out 1
    go_wp2_with (first | ((with_reducible refine gate_callee (f := 155) rfl ?_); refine goesL_ (some 9) rfl rfl Try.func155 (by kernel_rfl) rfl #[.agg #[.int .i64 a0_0, .int .i64 a0_1, .int .i64 a0_2], .agg #[.int .i64 x1590000_1, .int .i64 x1590001_1]] rfl (by (try simp only [List.map_toArray, List.map_cons, List.map_nil]); first | done | rfl | (simp only [List.length_drop, List.length_take]; rfl)) ?_; (with_reducible refine (impl_Lattice_has.calls a0_0 a0_1 a0_2 x1590000_1 x1590001_1 false _ A14.out).mono ?_); rintro e w35 ⟨rfl, hb⟩; refine ⟨_, rfl, ?_⟩; have n0_ := Aside0.mk (blk_below (g := gb1586) (o := .cells #[.int .i64 a0_0, .int .i64 a0_1, .int .i64 a0_2] 28 (0, 0)) (by (with_reducible repeat (first | refine blk_drewN ?_ _ | refine blk_drew ?_ | refine blk_alloc ?_ _)); exact BK1586.out) hb); have n1_ := Aside0.mk (blk_below (g := gb1587) (o := .cells #[.int .i64 a1_0, .int .i64 a1_1] 38 (0, 0)) (by (with_reducible repeat (first | refine blk_drewN ?_ _ | refine blk_drew ?_ | refine blk_alloc ?_ _)); exact BK1587.out) hb); have n2_ := Aside0.mk (blk_below (g := gb1588) (o := .cells #[.int .i64 0, .int .i64 0] 38 (0, 0)) (by (with_reducible repeat (first | refine blk_drewN ?_ _ | refine blk_drew ?_ | refine blk_alloc ?_ _)); exact BK1588.out) hb); have n3_ := Aside0.mk (blk_below (g := gb1589) (o := .cells #[.int .i64 x1590000_1, .int .i64 x1590001_1] 38 (0, 0)) (by (with_reducible repeat (first | refine blk_drewN ?_ _ | refine blk_drew ?_ | refine blk_alloc ?_ _)); exact BK1589.out) hb); have n4_ := Aside0.mk (below_step (by repeat (first | (with_reducible first | exact HB.out | apply below_alloc | apply pw_below_drewN | apply below_drew1 | refine below_set ?_ GE1586.out | refine below_set ?_ GE1587.out | refine below_set ?_ GE1588.out | refine below_set ?_ GE1589.out) | exact HB.out)) hb); clear BK1586; clear BK1587; clear BK1588; clear BK1589; clear HB; have BK1586 := n0_; have BK1587 := n1_; have BK1588 := n2_; have BK1589 := n3_; have HB := n4_; clear n0_ n1_ n2_ n3_ n4_; (try clear hb); (try clear hb2); (try clear hk); (try clear hi); have hcz36_0 : w35.cell? ⟨gb1589, 0, none⟩ = some (.int .i64 x1590000_1) := (blk_cell BK1589.out 0).trans rfl; have hcz36_1 : w35.cell? ⟨gb1589, 1, none⟩ = some (.int .i64 x1590001_1) := (blk_cell BK1589.out 1).trans rfl; have hfz36_0 := blk_frozen BK1589.out 0; have hfz36_1 := blk_frozen BK1589.out 1; have hnb37 := NB1587_1588.out; have hnc37 := NB1588_1587.out; have hcz38_0 : w35.cell? ⟨gb1587, 0, none⟩ = some (.int .i64 a1_0) := (blk_cell BK1587.out 0).trans rfl; have hcz38_1 : w35.cell? ⟨gb1587, 1, none⟩ = some (.int .i64 a1_1) := (blk_cell BK1587.out 1).trans rfl; have hfz38_0 := blk_frozen BK1587.out 0; have hfz38_1 := blk_frozen BK1587.out 1) | ((with_reducible refine gate_callee (f := 122) rfl ?_); refine goesL_ (some 13) rfl rfl Try.func122 (by kernel_rfl) rfl #[.agg #[.int .i64 x1590000_1, .int .i64 x1590001_1], .agg #[.int .i64 a1_0, .int .i64 a1_1]] rfl (by (try simp only [List.map_toArray, List.map_cons, List.map_nil]); first | done | rfl | (simp only [List.length_drop, List.length_take]; rfl)) ?_; (with_reducible refine (impl_Vec_add.calls x1590000_1 x1590001_1 a1_0 a1_1 t1591 t1592 _ A27.out).mono ?_); rintro e w39 ⟨rfl, hb⟩; refine ⟨_, rfl, ?_⟩; have n0_ := Aside0.mk (blk_below (g := gb1586) (o := .cells #[.int .i64 a0_0, .int .i64 a0_1, .int .i64 a0_2] 28 (0, 0)) (by (with_reducible repeat (first | refine blk_drewN ?_ _ | refine blk_drew ?_ | refine blk_alloc ?_ _)); exact BK1586.out) hb); have n1_ := Aside0.mk (blk_below (g := gb1587) (o := .cells #[.int .i64 a1_0, .int .i64 a1_1] 38 (0, 0)) (by (with_reducible repeat (first | refine blk_drewN ?_ _ | refine blk_drew ?_ | refine blk_alloc ?_ _)); exact BK1587.out) hb); have n2_ := Aside0.mk (blk_below (g := gb1588) (o := .cells #[.int .i64 0, .int .i64 0] 38 (0, 0)) (by (with_reducible repeat (first | refine blk_drewN ?_ _ | refine blk_drew ?_ | refine blk_alloc ?_ _)); exact BK1588.out) hb); have n3_ := Aside0.mk (blk_below (g := gb1589) (o := .cells #[.int .i64 x1590000_1, .int .i64 x1590001_1] 38 (0, 0)) (by (with_reducible repeat (first | refine blk_drewN ?_ _ | refine blk_drew ?_ | refine blk_alloc ?_ _)); exact BK1589.out) hb); have n4_ := Aside0.mk (below_step (by repeat (first | (with_reducible first | exact HB.out | apply below_alloc | apply pw_below_drewN | apply below_drew1 | refine below_set ?_ GE1586.out | refine below_set ?_ GE1587.out | refine below_set ?_ GE1588.out | refine below_set ?_ GE1589.out) | exact HB.out)) hb); clear BK1586; clear BK1587; clear BK1588; clear BK1589; clear HB; have BK1586 := n0_; have BK1587 := n1_; have BK1588 := n2_; have BK1589 := n3_; have HB := n4_; clear n0_ n1_ n2_ n3_ n4_; (try clear hb); (try clear hb2); (try clear hk); (try clear hi); have hcz40_0 : w39.cell? ⟨gb1589, 0, none⟩ = some (.int .i64 x1590000_1) := (blk_cell BK1589.out 0).trans rfl; have hcz40_1 : w39.cell? ⟨gb1589, 1, none⟩ = some (.int .i64 x1590001_1) := (blk_cell BK1589.out 1).trans rfl; have hfz40_0 := blk_frozen BK1589.out 0; have hfz40_1 := blk_frozen BK1589.out 1))
    go_roundg k1
    case measure => have := HK1.out; omega
    case rel => exact ⟨(t1591), (t1592), H', ⟨by have := HK1.out; omega⟩, ⟨by (with_reducible repeat (first | refine blk_drewN ?_ _ | refine blk_drew ?_ | refine blk_alloc ?_ _)); refine blk_far ?_ NB1586_1589.out _; (with_reducible repeat (first | refine blk_drewN ?_ _ | refine blk_drew ?_ | refine blk_alloc ?_ _)); refine blk_far ?_ NB1586_1589.out _; (with_reducible repeat (first | refine blk_drewN ?_ _ | refine blk_drew ?_ | refine blk_alloc ?_ _)); exact BK1586.out⟩, ⟨by (with_reducible repeat (first | refine blk_drewN ?_ _ | refine blk_drew ?_ | refine blk_alloc ?_ _)); refine blk_far ?_ NB1587_1589.out _; (with_reducible repeat (first | refine blk_drewN ?_ _ | refine blk_drew ?_ | refine blk_alloc ?_ _)); refine blk_far ?_ NB1587_1589.out _; (with_reducible repeat (first | refine blk_drewN ?_ _ | refine blk_drew ?_ | refine blk_alloc ?_ _)); exact BK1587.out⟩, ⟨by (with_reducible repeat (first | refine blk_drewN ?_ _ | refine blk_drew ?_ | refine blk_alloc ?_ _)); refine blk_far ?_ NB1588_1589.out _; (with_reducible repeat (first | refine blk_drewN ?_ _ | refine blk_drew ?_ | refine blk_alloc ?_ _)); refine blk_far ?_ NB1588_1589.out _; (with_reducible repeat (first | refine blk_drewN ?_ _ | refine blk_drew ?_ | refine blk_alloc ?_ _)); exact BK1588.out⟩, ⟨by (with_reducible repeat (first | refine blk_drewN ?_ _ | refine blk_drew ?_ | refine blk_alloc ?_ _)); refine blk_put (cs := #[.int .i64 t1591, .int .i64 x1590001_1]) ?_ 1 _ rfl; (with_reducible repeat (first | refine blk_drewN ?_ _ | refine blk_drew ?_ | refine blk_alloc ?_ _)); refine blk_put (cs := #[.int .i64 x1590000_1, .int .i64 x1590001_1]) ?_ 0 _ rfl; (with_reducible repeat (first | refine blk_drewN ?_ _ | refine blk_drew ?_ | refine blk_alloc ?_ _)); exact BK1589.out⟩, ⟨by repeat (first | (with_reducible first | exact HB.out | apply below_alloc | apply pw_below_drewN | apply below_drew1 | refine below_set ?_ GE1586.out | refine below_set ?_ GE1587.out | refine below_set ?_ GE1588.out | refine below_set ?_ GE1589.out) | exact HB.out)⟩⟩


/-! ### impl_Lattice_repeat: function 108 -/
theorem fld108_38_0 (a b : Int) (w : World) : (Instr.field 38 (.agg #[.int .i64 a, .int .i64 b]) 0).run Try.prog w = .ok (.int .i64 a) w := by kernel_rfl
theorem fld108_38_1 (a b : Int) (w : World) : (Instr.field 38 (.agg #[.int .i64 a, .int .i64 b]) 1).run Try.prog w = .ok (.int .i64 b) w := by kernel_rfl
attribute [local go_sem] fld108_38_0 fld108_38_1
set_option maxHeartbeats 8000000 in
set_option maxRecDepth 100000 in
theorem impl_Lattice_repeat.calls (k : Nat) (a0_0 : Int) (a0_1 : Int) (a0_2 : Int) (r : Int) (w : World) (h : impl_Lattice_repeat.f k a0_0 a0_1 a0_2 = some r) :
  Calls Try.prog 108 #[.agg #[.int .i64 a0_0, .int .i64 a0_1, .int .i64 a0_2]] w fun e w' => e = .returned (.int .i64 r) ∧ Below w.heap.size w w' := by
 have hu28 := Try.underlying28
 have hu38 := Try.underlying38
 have HB := Aside0.mk (Below.refl w.heap.size w)
 have H : ((impl_Lattice_multipleIn.f k a0_0 a0_1 a0_2 0 1).bind fun bt1594 => (some bt1594.2)) = some r := h
 clear h
 replace H := Option.bind_eq_some_iff.mp H
 obtain ⟨⟨t1594, t1595⟩, A20, H⟩ := H
 replace H : (some t1595) = some r := H
 have A2 := Aside0.mk A20
 clear A20
 obtain rfl := Option.some.inj H
 go_enter Try.func108, Try.ntmps108
 go_wp2_with (first | ((with_reducible refine gate_dst (N := 1) rfl ?_); refine box_event ?hg (N := 1) ?hd (cs := #[.int .i64 a0_0, .int .i64 a0_1, .int .i64 a0_2]) (t := 28) ?hr ?_; (case hd => rfl); (case hg => rfl); (case hr => first | (go_simp; done) | (go_simp; rfl)); intro gb1593 hg w3 hbox hb; have n0_ := Aside0.mk (below_step (by repeat (first | (with_reducible first | exact HB.out | apply below_alloc | apply pw_below_drewN | apply below_drew1) | exact HB.out)) hb); have n1_ := Aside0.mk (hbox); have n2_ := Aside0.mk ((by rw [hg]; exact (below_size (by repeat (first | (with_reducible first | exact HB.out | apply below_alloc | apply pw_below_drewN | apply below_drew1) | exact HB.out))) : w.heap.size ≤ gb1593)); have n3_ := Aside0.mk ((by rw [hg]; exact (below_size (by repeat (first | (with_reducible first | exact HB.out | apply below_alloc | apply pw_below_drewN | apply below_drew1) | exact HB.out))) : w.heap.size ≤ gb1593)); clear HB; have HB := n0_; have BK1593 := n1_; have GW1593 := n2_; have GE1593 := n3_; clear n0_ n1_ n2_ n3_; clear hb hbox hg; have hcz4_0 : w3.cell? ⟨gb1593, 0, none⟩ = some (.int .i64 a0_0) := (blk_cell BK1593.out 0).trans rfl; have hcz4_1 : w3.cell? ⟨gb1593, 1, none⟩ = some (.int .i64 a0_1) := (blk_cell BK1593.out 1).trans rfl; have hcz4_2 : w3.cell? ⟨gb1593, 2, none⟩ = some (.int .i64 a0_2) := (blk_cell BK1593.out 2).trans rfl; have hfz4_0 := blk_frozen BK1593.out 0; have hfz4_1 := blk_frozen BK1593.out 1; have hfz4_2 := blk_frozen BK1593.out 2) | ((with_reducible refine gate_callee (f := 154) rfl ?_); refine goesL_ (some 5) rfl rfl Try.func154 (by kernel_rfl) rfl #[.agg #[.int .i64 a0_0, .int .i64 a0_1, .int .i64 a0_2], .agg #[.int .i64 0, .int .i64 1]] rfl (by (try simp only [List.map_toArray, List.map_cons, List.map_nil]); first | done | rfl | (simp only [List.length_drop, List.length_take]; rfl)) ?_; (with_reducible refine (impl_Lattice_multipleIn.calls k a0_0 a0_1 a0_2 0 1 t1594 t1595 _ A2.out).mono ?_); rintro e w5 ⟨rfl, hb⟩; refine ⟨_, rfl, ?_⟩; have n0_ := Aside0.mk (blk_below (g := gb1593) (o := .cells #[.int .i64 a0_0, .int .i64 a0_1, .int .i64 a0_2] 28 (0, 0)) (by (with_reducible repeat (first | refine blk_drewN ?_ _ | refine blk_drew ?_ | refine blk_alloc ?_ _)); exact BK1593.out) hb); have n1_ := Aside0.mk (below_step (by repeat (first | (with_reducible first | exact HB.out | apply below_alloc | apply pw_below_drewN | apply below_drew1 | refine below_set ?_ GE1593.out) | exact HB.out)) hb); clear BK1593; clear HB; have BK1593 := n0_; have HB := n1_; clear n0_ n1_; (try clear hb); (try clear hb2); (try clear hk); (try clear hi)))
 go_ret
 exact ⟨by first | rfl | (simp [errW_none, errW_some] <;> rfl) | (simp [*, errW_none, errW_some] <;> rfl), by repeat (first | (with_reducible first | exact HB.out | apply below_alloc | apply pw_below_drewN | apply below_drew1 | refine below_set ?_ GE1593.out) | exact HB.out)⟩


/-! ### impl_Lattice_drop: function 111 -/
set_option maxHeartbeats 8000000 in
set_option maxRecDepth 100000 in
theorem impl_Lattice_drop.calls (k : Nat) (a0_0 : Int) (a0_1 : Int) (a0_2 : Int) (a1 : Int) (r : Int) (w : World) (h : impl_Lattice_drop.f k a0_0 a0_1 a0_2 a1 = some r) :
  Calls Try.prog 111 #[.agg #[.int .i64 a0_0, .int .i64 a0_1, .int .i64 a0_2], .int .i64 a1] w fun e w' => e = .returned (.int .i64 r) ∧ Below w.heap.size w w' := by
 have hu28 := Try.underlying28
 have hu38 := Try.underlying38
 have HB := Aside0.mk (Below.refl w.heap.size w)
 have H : ((impl_Lattice_repeat.f k a0_0 a0_1 a0_2).bind fun t1691 => (impl_Lattice_drop.l0 k a1 t1691 0 a0_0 a0_1 a0_2)) = some r := h
 clear h
 replace H := Option.bind_eq_some_iff.mp H
 obtain ⟨t1691, A30, H⟩ := H
 replace H : (impl_Lattice_drop.l0 k a1 t1691 0 a0_0 a0_1 a0_2) = some r := H
 have A3 := Aside0.mk A30
 clear A30
 have H' := Aside0.mk H
 clear H
 go_enter Try.func111, Try.ntmps111
 go_wp2_with (first | ((with_reducible refine gate_dst (N := 2) rfl ?_); refine box_event ?hg (N := 2) ?hd (cs := #[.int .i64 a0_0, .int .i64 a0_1, .int .i64 a0_2]) (t := 28) ?hr ?_; (case hd => rfl); (case hg => rfl); (case hr => first | (go_simp; done) | (go_simp; rfl)); intro gb1690 hg w4 hbox hb; have n0_ := Aside0.mk (below_step (by repeat (first | (with_reducible first | exact HB.out | apply below_alloc | apply pw_below_drewN | apply below_drew1) | exact HB.out)) hb); have n1_ := Aside0.mk (hbox); have n2_ := Aside0.mk ((by rw [hg]; exact (below_size (by repeat (first | (with_reducible first | exact HB.out | apply below_alloc | apply pw_below_drewN | apply below_drew1) | exact HB.out))) : w.heap.size ≤ gb1690)); have n3_ := Aside0.mk ((by rw [hg]; exact (below_size (by repeat (first | (with_reducible first | exact HB.out | apply below_alloc | apply pw_below_drewN | apply below_drew1) | exact HB.out))) : w.heap.size ≤ gb1690)); clear HB; have HB := n0_; have BK1690 := n1_; have GW1690 := n2_; have GE1690 := n3_; clear n0_ n1_ n2_ n3_; clear hb hbox hg; have hcz5_0 : w4.cell? ⟨gb1690, 0, none⟩ = some (.int .i64 a0_0) := (blk_cell BK1690.out 0).trans rfl; have hcz5_1 : w4.cell? ⟨gb1690, 1, none⟩ = some (.int .i64 a0_1) := (blk_cell BK1690.out 1).trans rfl; have hcz5_2 : w4.cell? ⟨gb1690, 2, none⟩ = some (.int .i64 a0_2) := (blk_cell BK1690.out 2).trans rfl; have hfz5_0 := blk_frozen BK1690.out 0; have hfz5_1 := blk_frozen BK1690.out 1; have hfz5_2 := blk_frozen BK1690.out 2) | ((with_reducible refine gate_callee (f := 108) rfl ?_); refine goesL_ (some 7) rfl rfl Try.func108 (by kernel_rfl) rfl #[.agg #[.int .i64 a0_0, .int .i64 a0_1, .int .i64 a0_2]] rfl (by (try simp only [List.map_toArray, List.map_cons, List.map_nil]); first | done | rfl | (simp only [List.length_drop, List.length_take]; rfl)) ?_; (with_reducible refine (impl_Lattice_repeat.calls k a0_0 a0_1 a0_2 t1691 _ A3.out).mono ?_); rintro e w6 ⟨rfl, hb⟩; refine ⟨_, rfl, ?_⟩; have n0_ := Aside0.mk (blk_below (g := gb1690) (o := .cells #[.int .i64 a0_0, .int .i64 a0_1, .int .i64 a0_2] 28 (0, 0)) (by (with_reducible repeat (first | refine blk_drewN ?_ _ | refine blk_drew ?_ | refine blk_alloc ?_ _)); exact BK1690.out) hb); have n1_ := Aside0.mk (below_step (by repeat (first | (with_reducible first | exact HB.out | apply below_alloc | apply pw_below_drewN | apply below_drew1 | refine below_set ?_ GE1690.out) | exact HB.out)) hb); clear BK1690; clear HB; have BK1690 := n0_; have HB := n1_; clear n0_ n1_; (try clear hb); (try clear hb2); (try clear hk); (try clear hi)))
 go_loopg [8] k (fun kq v8 w' => ∃ (x8_1 : Int), v8 = .int .i64 x8_1 ∧ Aside0 (impl_Lattice_drop.l0 kq a1 t1691 x8_1 a0_0 a0_1 a0_2 = some r) ∧ Aside0 (kq ≤ k) ∧ Aside0 (w'.heap[gb1690]? = some (.cells #[.int .i64 a0_0, .int .i64 a0_1, .int .i64 a0_2] 28 (0, 0))) ∧ Aside0 (Below w.heap.size w w'))
 case atStart => exact ⟨(0), (by first | rfl | (simp; done) | (simp [*]; done)), H', ⟨Nat.le_refl _⟩, ⟨by (with_reducible repeat (first | refine blk_drewN ?_ _ | refine blk_drew ?_ | refine blk_alloc ?_ _)); exact BK1690.out⟩, ⟨by repeat (first | (with_reducible first | exact HB.out | apply below_alloc | apply pw_below_drewN | apply below_drew1 | refine below_set ?_ GE1690.out) | exact HB.out)⟩⟩
 case round =>
  clear H'
  try clear c1
  try clear p2
  try clear hcz5_0
  try clear hcz5_1
  try clear hcz5_2
  try clear hfz5_0
  try clear hfz5_1
  try clear hfz5_2
  obtain ⟨x8_1, rfl, HA, HK1, BK1690, HB⟩ := hrel
  cases gk with
  | zero => exact absurd HA.out (by simp [impl_Lattice_drop.l0])
  | succ k1 =>
   have H := HA.out
   clear HA
   simp only [impl_Lattice_drop.l0] at H
   by_cases c7 : x8_1 < t1691
   ·
    rw [if_pos c7] at H
    have c7b0 : decide (x8_1 < t1691) = true := decide_eq_true c7
    clear c7
    replace H := Option.bind_eq_some_iff.mp H
    obtain ⟨t1692, A80, H⟩ := H
    replace H : (if t1692 = true then (some x8_1) else (impl_Lattice_drop.l0 k1 a1 t1691 (wrap64 (x8_1 + 1)) a0_0 a0_1 a0_2)) = some r := H
    have A8 := Aside0.mk A80
    clear A80
    by_cases c9 : t1692 = true
    ·
     subst c9
     have H1 : (some x8_1) = some r := by rw [if_pos rfl] at H; exact H
     clear H
     have H := H1
     clear H1
     obtain rfl := Option.some.inj H
     have hcz10_0 : wr.cell? ⟨gb1690, 0, none⟩ = some (.int .i64 a0_0) := (blk_cell BK1690.out 0).trans rfl
     have hcz10_1 : wr.cell? ⟨gb1690, 1, none⟩ = some (.int .i64 a0_1) := (blk_cell BK1690.out 1).trans rfl
     have hcz10_2 : wr.cell? ⟨gb1690, 2, none⟩ = some (.int .i64 a0_2) := (blk_cell BK1690.out 2).trans rfl
     have hfz10_0 := blk_frozen BK1690.out 0
     have hfz10_1 := blk_frozen BK1690.out 1
     have hfz10_2 := blk_frozen BK1690.out 2
     go_wp2_with (first | ((with_reducible refine gate_callee (f := 155) rfl ?_); refine goesL_ (some 16) rfl rfl Try.func155 (by kernel_rfl) rfl #[.agg #[.int .i64 a0_0, .int .i64 a0_1, .int .i64 a0_2], .agg #[.int .i64 a1, .int .i64 (wrap64 (-x8_1))]] rfl (by (try simp only [List.map_toArray, List.map_cons, List.map_nil]); first | done | rfl | (simp only [List.length_drop, List.length_take]; rfl)) ?_; (with_reducible refine (impl_Lattice_has.calls a0_0 a0_1 a0_2 a1 (wrap64 (-x8_1)) true _ A8.out).mono ?_); rintro e w11 ⟨rfl, hb⟩; refine ⟨_, rfl, ?_⟩; have n0_ := Aside0.mk (blk_below (g := gb1690) (o := .cells #[.int .i64 a0_0, .int .i64 a0_1, .int .i64 a0_2] 28 (0, 0)) (by (with_reducible repeat (first | refine blk_drewN ?_ _ | refine blk_drew ?_ | refine blk_alloc ?_ _)); exact BK1690.out) hb); have n1_ := Aside0.mk (below_step (by repeat (first | (with_reducible first | exact HB.out | apply below_alloc | apply pw_below_drewN | apply below_drew1 | refine below_set ?_ GE1690.out) | exact HB.out)) hb); clear BK1690; clear HB; have BK1690 := n0_; have HB := n1_; clear n0_ n1_; (try clear hb); (try clear hb2); (try clear hk); (try clear hi)))
     go_ret
     exact ⟨by first | rfl | (simp [errW_none, errW_some] <;> rfl) | (simp [*, errW_none, errW_some] <;> rfl), by repeat (first | (with_reducible first | exact HB.out | apply below_alloc | apply pw_below_drewN | apply below_drew1 | refine below_set ?_ GE1690.out) | exact HB.out)⟩
    ·
     replace c9 := Bool.eq_false_iff.mpr c9
     subst c9
     have H1 : (impl_Lattice_drop.l0 k1 a1 t1691 (wrap64 (x8_1 + 1)) a0_0 a0_1 a0_2) = some r := by rw [if_neg (show ¬ (false = true) by decide)] at H; exact H
     clear H
     have H := H1
     clear H1
     have H' := Aside0.mk H
     clear H
     have hcz12_0 : wr.cell? ⟨gb1690, 0, none⟩ = some (.int .i64 a0_0) := (blk_cell BK1690.out 0).trans rfl
     have hcz12_1 : wr.cell? ⟨gb1690, 1, none⟩ = some (.int .i64 a0_1) := (blk_cell BK1690.out 1).trans rfl
     have hcz12_2 : wr.cell? ⟨gb1690, 2, none⟩ = some (.int .i64 a0_2) := (blk_cell BK1690.out 2).trans rfl
     have hfz12_0 := blk_frozen BK1690.out 0
     have hfz12_1 := blk_frozen BK1690.out 1
     have hfz12_2 := blk_frozen BK1690.out 2
     go_wp2_with (first | ((with_reducible refine gate_callee (f := 155) rfl ?_); refine goesL_ (some 16) rfl rfl Try.func155 (by kernel_rfl) rfl #[.agg #[.int .i64 a0_0, .int .i64 a0_1, .int .i64 a0_2], .agg #[.int .i64 a1, .int .i64 (wrap64 (-x8_1))]] rfl (by (try simp only [List.map_toArray, List.map_cons, List.map_nil]); first | done | rfl | (simp only [List.length_drop, List.length_take]; rfl)) ?_; (with_reducible refine (impl_Lattice_has.calls a0_0 a0_1 a0_2 a1 (wrap64 (-x8_1)) false _ A8.out).mono ?_); rintro e w13 ⟨rfl, hb⟩; refine ⟨_, rfl, ?_⟩; have n0_ := Aside0.mk (blk_below (g := gb1690) (o := .cells #[.int .i64 a0_0, .int .i64 a0_1, .int .i64 a0_2] 28 (0, 0)) (by (with_reducible repeat (first | refine blk_drewN ?_ _ | refine blk_drew ?_ | refine blk_alloc ?_ _)); exact BK1690.out) hb); have n1_ := Aside0.mk (below_step (by repeat (first | (with_reducible first | exact HB.out | apply below_alloc | apply pw_below_drewN | apply below_drew1 | refine below_set ?_ GE1690.out) | exact HB.out)) hb); clear BK1690; clear HB; have BK1690 := n0_; have HB := n1_; clear n0_ n1_; (try clear hb); (try clear hb2); (try clear hk); (try clear hi)))
     go_roundg k1
     case measure => have := HK1.out; omega
     case rel => exact ⟨(wrap64 (x8_1 + 1)), (by first | rfl | (simp; done) | (simp [*]; done)), H', ⟨by have := HK1.out; omega⟩, ⟨by (with_reducible repeat (first | refine blk_drewN ?_ _ | refine blk_drew ?_ | refine blk_alloc ?_ _)); exact BK1690.out⟩, ⟨by repeat (first | (with_reducible first | exact HB.out | apply below_alloc | apply pw_below_drewN | apply below_drew1 | refine below_set ?_ GE1690.out) | exact HB.out)⟩⟩
   ·
    rw [if_neg c7] at H
    have c7b0 : decide (x8_1 < t1691) = false := decide_eq_false c7
    clear c7
    obtain rfl := Option.some.inj H
    go_wp2
    go_ret
    exact ⟨by first | rfl | (simp [errW_none, errW_some] <;> rfl) | (simp [*, errW_none, errW_some] <;> rfl), by repeat (first | (with_reducible first | exact HB.out | apply below_alloc | apply pw_below_drewN | apply below_drew1 | refine below_set ?_ GE1690.out) | exact HB.out)⟩


/-! ### impl_StrideOf: function 51 -/
set_option maxHeartbeats 8000000 in
set_option maxRecDepth 100000 in
theorem impl_StrideOf.calls (k : Nat) (a0_0 : Int) (a0_1 : Int) (a0_2 : Int) (a0_3 : Int) (A0_4 : Option Addr) (c0_4 : Nat) (l0_4 : List Int) (r1 : Int) (r2 : Int) (r3 : Int) (w : World) (hr0_4 : Kd.C (Kd.int .i64) w A0_4 l0_4.length l0_4) (hc0_4 : l0_4.length ≤ c0_4) (h : impl_StrideOf.f k a0_0 a0_1 a0_2 a0_3 l0_4 = some (r1, r2, r3)) :
  Calls Try.prog 51 #[.agg #[.int .i64 a0_0, .int .i64 a0_1, .int .i64 a0_2, .int .i64 a0_3, .slice A0_4 l0_4.length c0_4]] w fun e w' => e = .returned (.tuple #[.int .i64 r1, .int .i64 r2, .int .i64 r3]) ∧ Below w.heap.size w w' := by
 have hu30 := Try.underlying30
 have hu28 := Try.underlying28
 have HR0_4 := Aside0.mk hr0_4
 have HC0_4 := Aside0.mk hc0_4
 clear hr0_4 hc0_4
 have HB := Aside0.mk (Below.refl w.heap.size w)
 have H : ((impl_rollLattice.f k a0_0 a0_1 a0_2 a0_3 l0_4).bind fun bt1694 => (if bt1694.2.2.2 = 0 then (impl_StrideOf.l0 k 1 bt1694.1 bt1694.2.1 bt1694.2.2.1) else (some (0, 0, bt1694.2.2.2)))) = some (r1, r2, r3) := h
 clear h
 replace H := Option.bind_eq_some_iff.mp H
 obtain ⟨⟨t1694, t1695, t1696, t1697⟩, A20, H⟩ := H
 replace H : (if t1697 = 0 then (impl_StrideOf.l0 k 1 t1694 t1695 t1696) else (some (0, 0, t1697))) = some (r1, r2, r3) := H
 have A2 := Aside0.mk A20
 clear A20
 by_cases c3 : t1697 = 0
 ·
  rw [if_pos c3] at H
  have c3b0 : (t1697 == 0) = true := beq_iff_eq.mpr c3
  have c3b1 : (t1697 != 0) = false := bne_eq_false_iff_eq.mpr c3
  clear c3
  have H' := Aside0.mk H
  clear H
  go_enter Try.func51, Try.ntmps51
  go_wp2_with (first | ((with_reducible refine gate_dst (N := 1) rfl ?_); refine box_event ?hg (N := 1) ?hd (cs := #[.int .i64 a0_0, .int .i64 a0_1, .int .i64 a0_2, .int .i64 a0_3, .slice A0_4 l0_4.length c0_4]) (t := 30) ?hr ?_; (case hd => rfl); (case hg => rfl); (case hr => first | (go_simp; done) | (go_simp; rfl)); intro gb1693 hg w4 hbox hb; have n0_ := Aside0.mk (below_step (by repeat (first | (with_reducible first | exact HB.out | apply below_alloc | apply pw_below_drewN | apply below_drew1) | exact HB.out)) hb); have n1_ := Aside0.mk (hbox); have n2_ := Aside0.mk ((by rw [hg]; exact (below_size (by repeat (first | (with_reducible first | exact HB.out | apply below_alloc | apply pw_below_drewN | apply below_drew1) | exact HB.out))) : w.heap.size ≤ gb1693)); have n3_ := Aside0.mk ((by rw [hg]; exact (below_size (by repeat (first | (with_reducible first | exact HB.out | apply below_alloc | apply pw_below_drewN | apply below_drew1) | exact HB.out))) : w.heap.size ≤ gb1693)); clear HB; have HB := n0_; have BK1693 := n1_; have GW1693 := n2_; have GE1693 := n3_; clear n0_ n1_ n2_ n3_; clear hb hbox hg; have hcz5_0 : w4.cell? ⟨gb1693, 0, none⟩ = some (.int .i64 a0_0) := (blk_cell BK1693.out 0).trans rfl; have hcz5_1 : w4.cell? ⟨gb1693, 1, none⟩ = some (.int .i64 a0_1) := (blk_cell BK1693.out 1).trans rfl; have hcz5_2 : w4.cell? ⟨gb1693, 2, none⟩ = some (.int .i64 a0_2) := (blk_cell BK1693.out 2).trans rfl; have hcz5_3 : w4.cell? ⟨gb1693, 3, none⟩ = some (.int .i64 a0_3) := (blk_cell BK1693.out 3).trans rfl; have hcz5_4 : w4.cell? ⟨gb1693, 4, none⟩ = some (.slice A0_4 l0_4.length c0_4) := (blk_cell BK1693.out 4).trans rfl; have hfz5_0 := blk_frozen BK1693.out 0; have hfz5_1 := blk_frozen BK1693.out 1; have hfz5_2 := blk_frozen BK1693.out 2; have hfz5_3 := blk_frozen BK1693.out 3; have hfz5_4 := blk_frozen BK1693.out 4) | ((with_reducible refine gate_callee (f := 107) rfl ?_); refine goesL_ (some 10) rfl rfl Try.func107 (by kernel_rfl) rfl #[.agg #[.int .i64 a0_0, .int .i64 a0_1, .int .i64 a0_2, .int .i64 a0_3, .slice A0_4 l0_4.length c0_4]] rfl (by (try simp only [List.map_toArray, List.map_cons, List.map_nil]); first | done | rfl | (simp only [List.length_drop, List.length_take]; rfl)) ?_; (with_reducible refine (impl_rollLattice.calls k a0_0 a0_1 a0_2 a0_3 _ _ l0_4 t1694 t1695 t1696 t1697 _ ?side1 ?side2 A2.out).mono ?_); (case side1 => repeat (first | exact (Kd.C_below HR0_4.out HB.out) | (with_reducible refine Kd.C_alloc ?_ _) | (with_reducible refine Kd.C_drewN ?_ _) | (with_reducible refine Kd.C_drew ?_))); (case side2 => exact HC0_4.out); rintro e w6 ⟨rfl, hb⟩; refine ⟨_, rfl, ?_⟩; have n0_ := Aside0.mk (blk_below (g := gb1693) (o := .cells #[.int .i64 a0_0, .int .i64 a0_1, .int .i64 a0_2, .int .i64 a0_3, .slice A0_4 l0_4.length c0_4] 30 (0, 0)) (by (with_reducible repeat (first | refine blk_drewN ?_ _ | refine blk_drew ?_ | refine blk_alloc ?_ _)); exact BK1693.out) hb); have n1_ := Aside0.mk (below_step (by repeat (first | (with_reducible first | exact HB.out | apply below_alloc | apply pw_below_drewN | apply below_drew1 | refine below_set ?_ GE1693.out) | exact HB.out)) hb); clear BK1693; clear HB; have BK1693 := n0_; have HB := n1_; clear n0_ n1_; (try clear hb); (try clear hb2); (try clear hk); (try clear hi)) | ((with_reducible refine gate_dst (N := 5) rfl ?_); refine box_event ?hg (N := 5) ?hd (cs := #[.int .i64 0, .int .i64 0, .int .i64 0]) (t := 28) ?hr ?_; (case hd => rfl); (case hg => rfl); (case hr => first | (go_simp; done) | (go_simp; rfl)); intro gb1698 hg w7 hbox hb; have n0_ := Aside0.mk (blk_below (g := gb1693) (o := .cells #[.int .i64 a0_0, .int .i64 a0_1, .int .i64 a0_2, .int .i64 a0_3, .slice A0_4 l0_4.length c0_4] 30 (0, 0)) (by (with_reducible repeat (first | refine blk_drewN ?_ _ | refine blk_drew ?_ | refine blk_alloc ?_ _)); exact BK1693.out) hb); have n1_ := Aside0.mk (below_step (by repeat (first | (with_reducible first | exact HB.out | apply below_alloc | apply pw_below_drewN | apply below_drew1 | refine below_set ?_ GE1693.out) | exact HB.out)) hb); have n2_ := Aside0.mk (hbox); have n3_ := Aside0.mk ((by rw [hg]; exact (below_size (by repeat (first | (with_reducible first | exact HB.out | apply below_alloc | apply pw_below_drewN | apply below_drew1 | refine below_set ?_ GE1693.out) | exact HB.out))) : w.heap.size ≤ gb1698)); have n4_ := Aside0.mk ((by rw [hg]; exact (below_size (by repeat (first | (with_reducible first | exact HB.out | apply below_alloc | apply pw_below_drewN | apply below_drew1 | refine below_set ?_ GE1693.out) | exact HB.out))) : w.heap.size ≤ gb1698)); have n5_ := Aside0.mk ((by rw [hg]; exact Nat.ne_of_lt (blk_lt (g := gb1693) (o := .cells #[.int .i64 a0_0, .int .i64 a0_1, .int .i64 a0_2, .int .i64 a0_3, .slice A0_4 l0_4.length c0_4] 30 (0, 0)) (by (with_reducible repeat (first | refine blk_drewN ?_ _ | refine blk_drew ?_ | refine blk_alloc ?_ _)); exact BK1693.out)) : gb1693 ≠ gb1698)); have n6_ := Aside0.mk ((by rw [hg]; exact Nat.ne_of_gt (blk_lt (g := gb1693) (o := .cells #[.int .i64 a0_0, .int .i64 a0_1, .int .i64 a0_2, .int .i64 a0_3, .slice A0_4 l0_4.length c0_4] 30 (0, 0)) (by (with_reducible repeat (first | refine blk_drewN ?_ _ | refine blk_drew ?_ | refine blk_alloc ?_ _)); exact BK1693.out)) : gb1698 ≠ gb1693)); clear BK1693; clear HB; have BK1693 := n0_; have HB := n1_; have BK1698 := n2_; have GW1698 := n3_; have GE1698 := n4_; have NB1693_1698 := n5_; have NB1698_1693 := n6_; clear n0_ n1_ n2_ n3_ n4_ n5_ n6_; clear hb hbox hg; have hnb8 := NB1698_1693.out; have hnc8 := NB1693_1698.out; have hcz9_0 : w7.cell? ⟨gb1698, 0, none⟩ = some (.int .i64 0) := (blk_cell BK1698.out 0).trans rfl; have hcz9_1 : w7.cell? ⟨gb1698, 1, none⟩ = some (.int .i64 0) := (blk_cell BK1698.out 1).trans rfl; have hcz9_2 : w7.cell? ⟨gb1698, 2, none⟩ = some (.int .i64 0) := (blk_cell BK1698.out 2).trans rfl; have hfz9_0 := blk_frozen BK1698.out 0; have hfz9_1 := blk_frozen BK1698.out 1; have hfz9_2 := blk_frozen BK1698.out 2))
  go_loopg [7] k (fun kq v7 w' => ∃ (x7_1 : Int), v7 = .int .i64 x7_1 ∧ Aside0 (impl_StrideOf.l0 kq x7_1 t1694 t1695 t1696 = some (r1, r2, r3)) ∧ Aside0 (kq ≤ k) ∧ Aside0 (w'.heap[gb1693]? = some (.cells #[.int .i64 a0_0, .int .i64 a0_1, .int .i64 a0_2, .int .i64 a0_3, (.slice A0_4 l0_4.length c0_4)] 30 (0, 0))) ∧ Aside0 (w'.heap[gb1698]? = some (.cells #[.int .i64 t1694, .int .i64 t1695, .int .i64 t1696] 28 (0, 0))) ∧ Aside0 (Below w.heap.size w w'))
  case atStart => exact ⟨(1), (by first | rfl | (simp; done) | (simp [*]; done)), H', ⟨Nat.le_refl _⟩, ⟨by (with_reducible repeat (first | refine blk_drewN ?_ _ | refine blk_drew ?_ | refine blk_alloc ?_ _)); refine blk_far ?_ NB1693_1698.out _; (with_reducible repeat (first | refine blk_drewN ?_ _ | refine blk_drew ?_ | refine blk_alloc ?_ _)); refine blk_far ?_ NB1693_1698.out _; (with_reducible repeat (first | refine blk_drewN ?_ _ | refine blk_drew ?_ | refine blk_alloc ?_ _)); refine blk_far ?_ NB1693_1698.out _; (with_reducible repeat (first | refine blk_drewN ?_ _ | refine blk_drew ?_ | refine blk_alloc ?_ _)); exact BK1693.out⟩, ⟨by (with_reducible repeat (first | refine blk_drewN ?_ _ | refine blk_drew ?_ | refine blk_alloc ?_ _)); refine blk_put (cs := #[.int .i64 t1694, .int .i64 t1695, .int .i64 0]) ?_ 2 _ rfl; (with_reducible repeat (first | refine blk_drewN ?_ _ | refine blk_drew ?_ | refine blk_alloc ?_ _)); refine blk_put (cs := #[.int .i64 t1694, .int .i64 0, .int .i64 0]) ?_ 1 _ rfl; (with_reducible repeat (first | refine blk_drewN ?_ _ | refine blk_drew ?_ | refine blk_alloc ?_ _)); refine blk_put (cs := #[.int .i64 0, .int .i64 0, .int .i64 0]) ?_ 0 _ rfl; (with_reducible repeat (first | refine blk_drewN ?_ _ | refine blk_drew ?_ | refine blk_alloc ?_ _)); exact BK1698.out⟩, ⟨by repeat (first | (with_reducible first | exact HB.out | apply below_alloc | apply pw_below_drewN | apply below_drew1 | refine below_set ?_ GE1693.out | refine below_set ?_ GE1698.out) | exact HB.out)⟩⟩
  case round =>
   clear H'
   try clear c1
   try clear p2
   try clear c3
   try clear c3b0
   try clear c3b1
   try clear c5
   try clear c8
   try clear hcz5_0
   try clear hcz5_1
   try clear hcz5_2
   try clear hcz5_3
   try clear hcz5_4
   try clear hcz9_0
   try clear hcz9_1
   try clear hcz9_2
   try clear hfz5_0
   try clear hfz5_1
   try clear hfz5_2
   try clear hfz5_3
   try clear hfz5_4
   try clear hfz9_0
   try clear hfz9_1
   try clear hfz9_2
   obtain ⟨x7_1, rfl, HA, HK1, BK1693, BK1698, HB⟩ := hrel
   cases gk with
   | zero => exact absurd HA.out (by simp [impl_StrideOf.l0])
   | succ k1 =>
    have H := HA.out
    clear HA
    simp only [impl_StrideOf.l0] at H
    replace H := Option.bind_eq_some_iff.mp H
    obtain ⟨t1699, A100, H⟩ := H
    replace H : (if t1699 < 0 then (impl_StrideOf.l0 k1 (wrap64 (x7_1 + 1)) t1694 t1695 t1696) else ((impl_Lattice_drop.f k1 t1694 t1695 t1696 x7_1).bind fun t1700 => (some (x7_1, t1700, 0)))) = some (r1, r2, r3) := H
    have A10 := Aside0.mk A100
    clear A100
    by_cases c11 : t1699 < 0
    ·
     rw [if_pos c11] at H
     have c11b0 : decide (t1699 < 0) = true := decide_eq_true c11
     clear c11
     have H' := Aside0.mk H
     clear H
     have hnb12 := NB1698_1693.out
     have hnc12 := NB1693_1698.out
     have hcz13_0 : wr.cell? ⟨gb1698, 0, none⟩ = some (.int .i64 t1694) := (blk_cell BK1698.out 0).trans rfl
     have hcz13_1 : wr.cell? ⟨gb1698, 1, none⟩ = some (.int .i64 t1695) := (blk_cell BK1698.out 1).trans rfl
     have hcz13_2 : wr.cell? ⟨gb1698, 2, none⟩ = some (.int .i64 t1696) := (blk_cell BK1698.out 2).trans rfl
     have hfz13_0 := blk_frozen BK1698.out 0
     have hfz13_1 := blk_frozen BK1698.out 1
     have hfz13_2 := blk_frozen BK1698.out 2
     go_wp2_with (first | ((with_reducible refine gate_callee (f := 111) rfl ?_); refine goesL_ (some 18) rfl rfl Try.func111 (by kernel_rfl) rfl #[.agg #[.int .i64 t1694, .int .i64 t1695, .int .i64 t1696], .int .i64 x7_1] rfl (by (try simp only [List.map_toArray, List.map_cons, List.map_nil]); first | done | rfl | (simp only [List.length_drop, List.length_take]; rfl)) ?_; (with_reducible refine (impl_Lattice_drop.calls k1 t1694 t1695 t1696 x7_1 t1699 _ A10.out).mono ?_); rintro e w14 ⟨rfl, hb⟩; refine ⟨_, rfl, ?_⟩; have n0_ := Aside0.mk (blk_below (g := gb1693) (o := .cells #[.int .i64 a0_0, .int .i64 a0_1, .int .i64 a0_2, .int .i64 a0_3, .slice A0_4 l0_4.length c0_4] 30 (0, 0)) (by (with_reducible repeat (first | refine blk_drewN ?_ _ | refine blk_drew ?_ | refine blk_alloc ?_ _)); exact BK1693.out) hb); have n1_ := Aside0.mk (blk_below (g := gb1698) (o := .cells #[.int .i64 t1694, .int .i64 t1695, .int .i64 t1696] 28 (0, 0)) (by (with_reducible repeat (first | refine blk_drewN ?_ _ | refine blk_drew ?_ | refine blk_alloc ?_ _)); exact BK1698.out) hb); have n2_ := Aside0.mk (below_step (by repeat (first | (with_reducible first | exact HB.out | apply below_alloc | apply pw_below_drewN | apply below_drew1 | refine below_set ?_ GE1693.out | refine below_set ?_ GE1698.out) | exact HB.out)) hb); clear BK1693; clear BK1698; clear HB; have BK1693 := n0_; have BK1698 := n1_; have HB := n2_; clear n0_ n1_ n2_; (try clear hb); (try clear hb2); (try clear hk); (try clear hi)))
     go_roundg k1
     case measure => have := HK1.out; omega
     case rel => exact ⟨(wrap64 (x7_1 + 1)), (by first | rfl | (simp; done) | (simp [*]; done)), H', ⟨by have := HK1.out; omega⟩, ⟨by (with_reducible repeat (first | refine blk_drewN ?_ _ | refine blk_drew ?_ | refine blk_alloc ?_ _)); exact BK1693.out⟩, ⟨by (with_reducible repeat (first | refine blk_drewN ?_ _ | refine blk_drew ?_ | refine blk_alloc ?_ _)); exact BK1698.out⟩, ⟨by repeat (first | (with_reducible first | exact HB.out | apply below_alloc | apply pw_below_drewN | apply below_drew1 | refine below_set ?_ GE1693.out | refine below_set ?_ GE1698.out) | exact HB.out)⟩⟩
    ·
     rw [if_neg c11] at H
     have c11b0 : decide (t1699 < 0) = false := decide_eq_false c11
     clear c11
     replace H := Option.bind_eq_some_iff.mp H
     obtain ⟨t1700, A150, H⟩ := H
     replace H : (some (x7_1, t1700, 0)) = some (r1, r2, r3) := H
     have A15 := Aside0.mk A150
     clear A150
     simp only [Option.some.injEq, Prod.mk.injEq] at H
     obtain ⟨rfl, rfl, rfl⟩ := H
     have hnb16 := NB1698_1693.out
     have hnc16 := NB1693_1698.out
     have hcz17_0 : wr.cell? ⟨gb1698, 0, none⟩ = some (.int .i64 t1694) := (blk_cell BK1698.out 0).trans rfl
     have hcz17_1 : wr.cell? ⟨gb1698, 1, none⟩ = some (.int .i64 t1695) := (blk_cell BK1698.out 1).trans rfl
     have hcz17_2 : wr.cell? ⟨gb1698, 2, none⟩ = some (.int .i64 t1696) := (blk_cell BK1698.out 2).trans rfl
     have hfz17_0 := blk_frozen BK1698.out 0
     have hfz17_1 := blk_frozen BK1698.out 1
     have hfz17_2 := blk_frozen BK1698.out 2
     go_wp2_with (first | ((with_reducible refine gate_callee (f := 111) rfl ?_); refine goesL_ (some 18) rfl rfl Try.func111 (by kernel_rfl) rfl #[.agg #[.int .i64 t1694, .int .i64 t1695, .int .i64 t1696], .int .i64 x7_1] rfl (by (try simp only [List.map_toArray, List.map_cons, List.map_nil]); first | done | rfl | (simp only [List.length_drop, List.length_take]; rfl)) ?_; (with_reducible refine (impl_Lattice_drop.calls k1 t1694 t1695 t1696 x7_1 t1699 _ A10.out).mono ?_); rintro e w18 ⟨rfl, hb⟩; refine ⟨_, rfl, ?_⟩; have n0_ := Aside0.mk (blk_below (g := gb1693) (o := .cells #[.int .i64 a0_0, .int .i64 a0_1, .int .i64 a0_2, .int .i64 a0_3, .slice A0_4 l0_4.length c0_4] 30 (0, 0)) (by (with_reducible repeat (first | refine blk_drewN ?_ _ | refine blk_drew ?_ | refine blk_alloc ?_ _)); exact BK1693.out) hb); have n1_ := Aside0.mk (blk_below (g := gb1698) (o := .cells #[.int .i64 t1694, .int .i64 t1695, .int .i64 t1696] 28 (0, 0)) (by (with_reducible repeat (first | refine blk_drewN ?_ _ | refine blk_drew ?_ | refine blk_alloc ?_ _)); exact BK1698.out) hb); have n2_ := Aside0.mk (below_step (by repeat (first | (with_reducible first | exact HB.out | apply below_alloc | apply pw_below_drewN | apply below_drew1 | refine below_set ?_ GE1693.out | refine below_set ?_ GE1698.out) | exact HB.out)) hb); clear BK1693; clear BK1698; clear HB; have BK1693 := n0_; have BK1698 := n1_; have HB := n2_; clear n0_ n1_ n2_; (try clear hb); (try clear hb2); (try clear hk); (try clear hi); have hcz19_0 : w18.cell? ⟨gb1698, 0, none⟩ = some (.int .i64 t1694) := (blk_cell BK1698.out 0).trans rfl; have hcz19_1 : w18.cell? ⟨gb1698, 1, none⟩ = some (.int .i64 t1695) := (blk_cell BK1698.out 1).trans rfl; have hcz19_2 : w18.cell? ⟨gb1698, 2, none⟩ = some (.int .i64 t1696) := (blk_cell BK1698.out 2).trans rfl; have hfz19_0 := blk_frozen BK1698.out 0; have hfz19_1 := blk_frozen BK1698.out 1; have hfz19_2 := blk_frozen BK1698.out 2) | ((with_reducible refine gate_callee (f := 111) rfl ?_); refine goesL_ (some 25) rfl rfl Try.func111 (by kernel_rfl) rfl #[.agg #[.int .i64 t1694, .int .i64 t1695, .int .i64 t1696], .int .i64 x7_1] rfl (by (try simp only [List.map_toArray, List.map_cons, List.map_nil]); first | done | rfl | (simp only [List.length_drop, List.length_take]; rfl)) ?_; (with_reducible refine (impl_Lattice_drop.calls k1 t1694 t1695 t1696 x7_1 t1700 _ A15.out).mono ?_); rintro e w20 ⟨rfl, hb⟩; refine ⟨_, rfl, ?_⟩; have n0_ := Aside0.mk (blk_below (g := gb1693) (o := .cells #[.int .i64 a0_0, .int .i64 a0_1, .int .i64 a0_2, .int .i64 a0_3, .slice A0_4 l0_4.length c0_4] 30 (0, 0)) (by (with_reducible repeat (first | refine blk_drewN ?_ _ | refine blk_drew ?_ | refine blk_alloc ?_ _)); exact BK1693.out) hb); have n1_ := Aside0.mk (blk_below (g := gb1698) (o := .cells #[.int .i64 t1694, .int .i64 t1695, .int .i64 t1696] 28 (0, 0)) (by (with_reducible repeat (first | refine blk_drewN ?_ _ | refine blk_drew ?_ | refine blk_alloc ?_ _)); exact BK1698.out) hb); have n2_ := Aside0.mk (below_step (by repeat (first | (with_reducible first | exact HB.out | apply below_alloc | apply pw_below_drewN | apply below_drew1 | refine below_set ?_ GE1693.out | refine below_set ?_ GE1698.out) | exact HB.out)) hb); clear BK1693; clear BK1698; clear HB; have BK1693 := n0_; have BK1698 := n1_; have HB := n2_; clear n0_ n1_ n2_; (try clear hb); (try clear hb2); (try clear hk); (try clear hi)))
     go_ret3
     exact ⟨by first | rfl | (simp [errW_none, errW_some] <;> rfl) | (simp [*, errW_none, errW_some] <;> rfl), by repeat (first | (with_reducible first | exact HB.out | apply below_alloc | apply pw_below_drewN | apply below_drew1 | refine below_set ?_ GE1693.out | refine below_set ?_ GE1698.out) | exact HB.out)⟩
 ·
  rw [if_neg c3] at H
  have c3b0 : (t1697 == 0) = false := beq_eq_false_iff_ne.mpr c3
  have c3b1 : (t1697 != 0) = true := bne_iff_ne.mpr c3
  simp only [Option.some.injEq, Prod.mk.injEq] at H
  obtain ⟨rfl, rfl, rfl⟩ := H
  go_enter Try.func51, Try.ntmps51
  go_wp2_with (first | ((with_reducible refine gate_dst (N := 1) rfl ?_); refine box_event ?hg (N := 1) ?hd (cs := #[.int .i64 a0_0, .int .i64 a0_1, .int .i64 a0_2, .int .i64 a0_3, .slice A0_4 l0_4.length c0_4]) (t := 30) ?hr ?_; (case hd => rfl); (case hg => rfl); (case hr => first | (go_simp; done) | (go_simp; rfl)); intro gb1693 hg w21 hbox hb; have n0_ := Aside0.mk (below_step (by repeat (first | (with_reducible first | exact HB.out | apply below_alloc | apply pw_below_drewN | apply below_drew1) | exact HB.out)) hb); have n1_ := Aside0.mk (hbox); have n2_ := Aside0.mk ((by rw [hg]; exact (below_size (by repeat (first | (with_reducible first | exact HB.out | apply below_alloc | apply pw_below_drewN | apply below_drew1) | exact HB.out))) : w.heap.size ≤ gb1693)); have n3_ := Aside0.mk ((by rw [hg]; exact (below_size (by repeat (first | (with_reducible first | exact HB.out | apply below_alloc | apply pw_below_drewN | apply below_drew1) | exact HB.out))) : w.heap.size ≤ gb1693)); clear HB; have HB := n0_; have BK1693 := n1_; have GW1693 := n2_; have GE1693 := n3_; clear n0_ n1_ n2_ n3_; clear hb hbox hg; have hcz22_0 : w21.cell? ⟨gb1693, 0, none⟩ = some (.int .i64 a0_0) := (blk_cell BK1693.out 0).trans rfl; have hcz22_1 : w21.cell? ⟨gb1693, 1, none⟩ = some (.int .i64 a0_1) := (blk_cell BK1693.out 1).trans rfl; have hcz22_2 : w21.cell? ⟨gb1693, 2, none⟩ = some (.int .i64 a0_2) := (blk_cell BK1693.out 2).trans rfl; have hcz22_3 : w21.cell? ⟨gb1693, 3, none⟩ = some (.int .i64 a0_3) := (blk_cell BK1693.out 3).trans rfl; have hcz22_4 : w21.cell? ⟨gb1693, 4, none⟩ = some (.slice A0_4 l0_4.length c0_4) := (blk_cell BK1693.out 4).trans rfl; have hfz22_0 := blk_frozen BK1693.out 0; have hfz22_1 := blk_frozen BK1693.out 1; have hfz22_2 := blk_frozen BK1693.out 2; have hfz22_3 := blk_frozen BK1693.out 3; have hfz22_4 := blk_frozen BK1693.out 4) | ((with_reducible refine gate_callee (f := 107) rfl ?_); refine goesL_ (some 10) rfl rfl Try.func107 (by kernel_rfl) rfl #[.agg #[.int .i64 a0_0, .int .i64 a0_1, .int .i64 a0_2, .int .i64 a0_3, .slice A0_4 l0_4.length c0_4]] rfl (by (try simp only [List.map_toArray, List.map_cons, List.map_nil]); first | done | rfl | (simp only [List.length_drop, List.length_take]; rfl)) ?_; (with_reducible refine (impl_rollLattice.calls k a0_0 a0_1 a0_2 a0_3 _ _ l0_4 t1694 t1695 t1696 t1697 _ ?side1 ?side2 A2.out).mono ?_); (case side1 => repeat (first | exact (Kd.C_below HR0_4.out HB.out) | (with_reducible refine Kd.C_alloc ?_ _) | (with_reducible refine Kd.C_drewN ?_ _) | (with_reducible refine Kd.C_drew ?_))); (case side2 => exact HC0_4.out); rintro e w23 ⟨rfl, hb⟩; refine ⟨_, rfl, ?_⟩; have n0_ := Aside0.mk (blk_below (g := gb1693) (o := .cells #[.int .i64 a0_0, .int .i64 a0_1, .int .i64 a0_2, .int .i64 a0_3, .slice A0_4 l0_4.length c0_4] 30 (0, 0)) (by (with_reducible repeat (first | refine blk_drewN ?_ _ | refine blk_drew ?_ | refine blk_alloc ?_ _)); exact BK1693.out) hb); have n1_ := Aside0.mk (below_step (by repeat (first | (with_reducible first | exact HB.out | apply below_alloc | apply pw_below_drewN | apply below_drew1 | refine below_set ?_ GE1693.out) | exact HB.out)) hb); clear BK1693; clear HB; have BK1693 := n0_; have HB := n1_; clear n0_ n1_; (try clear hb); (try clear hb2); (try clear hk); (try clear hi)) | ((with_reducible refine gate_dst (N := 5) rfl ?_); refine box_event ?hg (N := 5) ?hd (cs := #[.int .i64 0, .int .i64 0, .int .i64 0]) (t := 28) ?hr ?_; (case hd => rfl); (case hg => rfl); (case hr => first | (go_simp; done) | (go_simp; rfl)); intro gb1698 hg w24 hbox hb; have n0_ := Aside0.mk (blk_below (g := gb1693) (o := .cells #[.int .i64 a0_0, .int .i64 a0_1, .int .i64 a0_2, .int .i64 a0_3, .slice A0_4 l0_4.length c0_4] 30 (0, 0)) (by (with_reducible repeat (first | refine blk_drewN ?_ _ | refine blk_drew ?_ | refine blk_alloc ?_ _)); exact BK1693.out) hb); have n1_ := Aside0.mk (below_step (by repeat (first | (with_reducible first | exact HB.out | apply below_alloc | apply pw_below_drewN | apply below_drew1 | refine below_set ?_ GE1693.out) | exact HB.out)) hb); have n2_ := Aside0.mk (hbox); have n3_ := Aside0.mk ((by rw [hg]; exact (below_size (by repeat (first | (with_reducible first | exact HB.out | apply below_alloc | apply pw_below_drewN | apply below_drew1 | refine below_set ?_ GE1693.out) | exact HB.out))) : w.heap.size ≤ gb1698)); have n4_ := Aside0.mk ((by rw [hg]; exact (below_size (by repeat (first | (with_reducible first | exact HB.out | apply below_alloc | apply pw_below_drewN | apply below_drew1 | refine below_set ?_ GE1693.out) | exact HB.out))) : w.heap.size ≤ gb1698)); have n5_ := Aside0.mk ((by rw [hg]; exact Nat.ne_of_lt (blk_lt (g := gb1693) (o := .cells #[.int .i64 a0_0, .int .i64 a0_1, .int .i64 a0_2, .int .i64 a0_3, .slice A0_4 l0_4.length c0_4] 30 (0, 0)) (by (with_reducible repeat (first | refine blk_drewN ?_ _ | refine blk_drew ?_ | refine blk_alloc ?_ _)); exact BK1693.out)) : gb1693 ≠ gb1698)); have n6_ := Aside0.mk ((by rw [hg]; exact Nat.ne_of_gt (blk_lt (g := gb1693) (o := .cells #[.int .i64 a0_0, .int .i64 a0_1, .int .i64 a0_2, .int .i64 a0_3, .slice A0_4 l0_4.length c0_4] 30 (0, 0)) (by (with_reducible repeat (first | refine blk_drewN ?_ _ | refine blk_drew ?_ | refine blk_alloc ?_ _)); exact BK1693.out)) : gb1698 ≠ gb1693)); clear BK1693; clear HB; have BK1693 := n0_; have HB := n1_; have BK1698 := n2_; have GW1698 := n3_; have GE1698 := n4_; have NB1693_1698 := n5_; have NB1698_1693 := n6_; clear n0_ n1_ n2_ n3_ n4_ n5_ n6_; clear hb hbox hg; have hnb25 := NB1698_1693.out; have hnc25 := NB1693_1698.out; have hcz26_0 : w24.cell? ⟨gb1698, 0, none⟩ = some (.int .i64 0) := (blk_cell BK1698.out 0).trans rfl; have hcz26_1 : w24.cell? ⟨gb1698, 1, none⟩ = some (.int .i64 0) := (blk_cell BK1698.out 1).trans rfl; have hcz26_2 : w24.cell? ⟨gb1698, 2, none⟩ = some (.int .i64 0) := (blk_cell BK1698.out 2).trans rfl; have hfz26_0 := blk_frozen BK1698.out 0; have hfz26_1 := blk_frozen BK1698.out 1; have hfz26_2 := blk_frozen BK1698.out 2))
  go_ret3
  exact ⟨by first | rfl | (simp [errW_none, errW_some] <;> rfl) | (simp [*, errW_none, errW_some] <;> rfl), by repeat (first | (with_reducible first | exact HB.out | apply below_alloc | apply pw_below_drewN | apply below_drew1 | refine below_set ?_ GE1693.out | refine below_set ?_ GE1698.out) | exact HB.out)⟩

end Go.Proofs.Ytomgliinndfliaa.X
