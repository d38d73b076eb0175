/- Part of the proof of the law FnExactInkShare: each function of the code computes what its plain function says. No condition of its own. -/
import Derived.Test.YtjjockhekaccnaaCFnExactInkShareW0
namespace Go.Proofs.Ytjjockhekaccnaa.X
open Go.RowKit Go.Proofs.YtjjockhekaccnaaW.PrintWords Go.Proofs.YtjjockhekaccnaaW.PrintLast Go.Proofs.YtjjockhekaccnaaW.PrintMore
attribute [local go_sem] max2_int min2_int max_two min_two max_three min_three max_four min_four   -- for this text's walks alone
set_option linter.unusedVariables false
set_option linter.unusedSimpArgs false

/-! ### laws_eqInt64S: function 64 -/
set_option maxHeartbeats 8000000 in
set_option maxRecDepth 100000 in
theorem laws_eqInt64S.calls (k : Nat) (A0 : Option Addr) (c0 : Nat) (l0 : List Int) (A1 : Option Addr) (c1 : Nat) (l1 : List Int) (r : Bool) (w : World) (hr0 : Kd.C (Kd.int .i64) w A0 l0.length l0) (hc0 : l0.length ≤ c0) (hr1 : Kd.C (Kd.int .i64) w A1 l1.length l1) (hc1 : l1.length ≤ c1) (h : laws_eqInt64S.f k l0 l1 = some r) :
  Calls Try.prog 64 #[.slice A0 l0.length c0, .slice A1 l1.length c1] w fun e w' => e = .returned (.bool r) ∧ Drawn0 w w' := by
 have HR0 := Aside0.mk hr0
 have HC0 := Aside0.mk hc0
 clear hr0 hc0
 have HR1 := Aside0.mk hr1
 have HC1 := Aside0.mk hc1
 clear hr1 hc1
 have H : (if (l0.length : Int) = (l1.length : Int) then (laws_eqInt64S.l0 k l0 l1 0) else (some false)) = some r := h
 clear h
 by_cases c3 : (l0.length : Int) = (l1.length : Int)
 ·
  rw [if_pos c3] at H
  have c3b0 : ((l0.length : Int) == (l1.length : Int)) = true := beq_iff_eq.mpr c3
  have c3b1 : ((l0.length : Int) != (l1.length : Int)) = false := bne_eq_false_iff_eq.mpr c3
  have c3b2 : (l0.length == l1.length) = true := by first | simpa using c3 | (simp at c3 ⊢; omega)
  clear c3
  have H' := Aside0.mk H
  clear H
  go_enter Try.func64, Try.ntmps64
  go_wp2
  repeat (go_quiet (fail); try go_wp2)
  go_loopg [5] k (fun kq v5 w' => ∃ (x5_1 : Int), v5 = .int .i64 x5_1 ∧ Aside0 (laws_eqInt64S.l0 kq l0 l1 x5_1 = some r) ∧ Aside0 (kq ≤ k) ∧ Drawn0 w w')
  case atStart => exact ⟨(0), (by first | rfl | (simp; done) | (simp [*]; done)), H', ⟨Nat.le_refl _⟩, by repeat (first | exact Drawn0.refl _ | apply Drawn0.step)⟩
  case round =>
   clear H'
   try clear c1
   try clear p2
   try clear c3
   try clear c3b0
   try clear c3b1
   try clear c3b2
   obtain ⟨x5_1, rfl, HA, HK1, ⟨m1, rfl⟩⟩ := hrel
   cases gk with
   | zero => exact absurd HA.out (by simp [laws_eqInt64S.l0])
   | succ k1 =>
    have H := HA.out
    clear HA
    simp only [laws_eqInt64S.l0] at H
    by_cases c4 : x5_1 < (l0.length : Int)
    ·
     rw [if_pos c4] at H
     have c4b0 : decide (x5_1 < (l0.length : Int)) = true := decide_eq_true c4
     clear c4
     by_cases c5 : 0 ≤ x5_1
     ·
      rw [if_pos c5] at H
      have c5b0 : decide (0 ≤ x5_1) = true := decide_eq_true c5
      clear c5
      by_cases c6 : x5_1 < (l1.length : Int)
      ·
       rw [if_pos c6] at H
       have c6b0 : decide (x5_1 < (l1.length : Int)) = true := decide_eq_true c6
       clear c6
       by_cases c7 : (rd l0 x5_1) = (rd l1 x5_1)
       ·
        rw [if_pos c7] at H
        have c7b0 : ((rd l0 x5_1) == (rd l1 x5_1)) = true := beq_iff_eq.mpr c7
        have c7b1 : ((rd l0 x5_1) != (rd l1 x5_1)) = false := bne_eq_false_iff_eq.mpr c7
        clear c7
        have H' := Aside0.mk H
        clear H
        have p160 : 0 ≤ (x5_1 : Int) := of_decide_eq_true (by first | (with_reducible assumption) | assumption)
        have q160 : x5_1 < (l0.length : Int) := of_decide_eq_true (by first | (with_reducible assumption) | assumption)
        obtain ⟨ad160, e160, hx160_0⟩ := Kd.at_int HR0.out x5_1 p160 q160
        cases e160
        replace p160 := eq_true p160
        replace q160 := eq_true q160
        have p161 : 0 ≤ (x5_1 : Int) := of_decide_eq_true (by first | (with_reducible assumption) | assumption)
        have q161 : x5_1 < (l1.length : Int) := of_decide_eq_true (by first | (with_reducible assumption) | assumption)
        obtain ⟨ad161, e161, hx161_0⟩ := Kd.at_int HR1.out x5_1 p161 q161
        cases e161
        replace p161 := eq_true p161
        replace q161 := eq_true q161
        go_wp2
        repeat (go_quiet (fail); try go_wp2)
        go_roundg k1
        case measure => have := HK1.out; omega
        case rel => exact ⟨(wrap64 (x5_1 + 1)), (by first | rfl | (simp; done) | (simp [*]; done)), H', ⟨by have := HK1.out; omega⟩, by repeat (first | exact Drawn0.refl _ | apply Drawn0.step)⟩
       ·
        rw [if_neg c7] at H
        have c7b0 : ((rd l0 x5_1) == (rd l1 x5_1)) = false := beq_eq_false_iff_ne.mpr c7
        have c7b1 : ((rd l0 x5_1) != (rd l1 x5_1)) = true := bne_iff_ne.mpr c7
        obtain rfl := Option.some.inj H
        have p160 : 0 ≤ (x5_1 : Int) := of_decide_eq_true (by first | (with_reducible assumption) | assumption)
        have q160 : x5_1 < (l0.length : Int) := of_decide_eq_true (by first | (with_reducible assumption) | assumption)
        obtain ⟨ad160, e160, hx160_0⟩ := Kd.at_int HR0.out x5_1 p160 q160
        cases e160
        replace p160 := eq_true p160
        replace q160 := eq_true q160
        have p161 : 0 ≤ (x5_1 : Int) := of_decide_eq_true (by first | (with_reducible assumption) | assumption)
        have q161 : x5_1 < (l1.length : Int) := of_decide_eq_true (by first | (with_reducible assumption) | assumption)
        obtain ⟨ad161, e161, hx161_0⟩ := Kd.at_int HR1.out x5_1 p161 q161
        cases e161
        replace p161 := eq_true p161
        replace q161 := eq_true q161
        go_wp2
        repeat (go_quiet (fail); try go_wp2)
        go_ret
        exact ⟨by first | rfl | (simp; done) | (simp [*]; done), by repeat (first | exact Drawn0.refl _ | apply Drawn0.step)⟩
      ·
       rw [if_neg c6] at H
       exact absurd H (by simp)
     ·
      rw [if_neg c5] at H
      exact absurd H (by simp)
    ·
     rw [if_neg c4] at H
     have c4b0 : decide (x5_1 < (l0.length : Int)) = false := decide_eq_false c4
     clear c4
     obtain rfl := Option.some.inj H
     go_wp2
     repeat (go_quiet (fail); try go_wp2)
     go_ret
     exact ⟨by first | rfl | (simp; done) | (simp [*]; done), by repeat (first | exact Drawn0.refl _ | apply Drawn0.step)⟩
 ·
  rw [if_neg c3] at H
  have c3b0 : ((l0.length : Int) == (l1.length : Int)) = false := beq_eq_false_iff_ne.mpr c3
  have c3b1 : ((l0.length : Int) != (l1.length : Int)) = true := bne_iff_ne.mpr c3
  have c3b2 : (l0.length == l1.length) = false := by first | simpa using c3 | (simp at c3 ⊢; omega)
  obtain rfl := Option.some.inj H
  go_enter Try.func64, Try.ntmps64
  go_wp2
  repeat (go_quiet (fail); try go_wp2)
  go_ret
  exact ⟨by first | rfl | (simp; done) | (simp [*]; done), by repeat (first | exact Drawn0.refl _ | apply Drawn0.step)⟩

end Go.Proofs.Ytjjockhekaccnaa.X
namespace Go.Proofs.Ytjjockhekaccnaa.X
open Go.RowKit Go.Proofs.YtjjockhekaccnaaW.PrintWords Go.Proofs.YtjjockhekaccnaaW.PrintLast Go.Proofs.YtjjockhekaccnaaW.PrintMore
attribute [local go_sem] max2_int min2_int max_two min_two max_three min_three max_four min_four   -- for this text's walks alone
set_option linter.unusedVariables false
set_option linter.unusedSimpArgs false

/-! ### laws_eqLattice: function 95 -/
set_option maxHeartbeats 8000000 in
set_option maxRecDepth 100000 in
theorem laws_eqLattice.calls (a0_0 : Int) (a0_1 : Int) (a0_2 : Int) (a1_0 : Int) (a1_1 : Int) (a1_2 : Int) (r : Bool) (w : World) (h : laws_eqLattice.f a0_0 a0_1 a0_2 a1_0 a1_1 a1_2 = some r) :
  Calls Try.prog 95 #[.agg #[.int .i64 a0_0, .int .i64 a0_1, .int .i64 a0_2], .agg #[.int .i64 a1_0, .int .i64 a1_1, .int .i64 a1_2]] w fun e w' => e = .returned (.bool r) ∧ Below w.heap.size w w' := by
 have hu71 := Try.underlying71
 have HB := Aside0.mk (Below.refl w.heap.size w)
 have H : (if a0_0 = a1_0 then (if a0_1 = a1_1 then (if a0_2 = a1_2 then (some true) else (some false)) else (some false)) else (some false)) = some r := h
 clear h
 by_cases c3 : a0_0 = a1_0
 ·
  rw [if_pos c3] at H
  have c3b0 : (a0_0 == a1_0) = true := beq_iff_eq.mpr c3
  have c3b1 : (a0_0 != a1_0) = false := bne_eq_false_iff_eq.mpr c3
  clear c3
  by_cases c4 : a0_1 = a1_1
  ·
   rw [if_pos c4] at H
   have c4b0 : (a0_1 == a1_1) = true := beq_iff_eq.mpr c4
   have c4b1 : (a0_1 != a1_1) = false := bne_eq_false_iff_eq.mpr c4
   clear c4
   by_cases c5 : a0_2 = a1_2
   ·
    rw [if_pos c5] at H
    have c5b0 : (a0_2 == a1_2) = true := beq_iff_eq.mpr c5
    have c5b1 : (a0_2 != a1_2) = false := bne_eq_false_iff_eq.mpr c5
    clear c5
    obtain rfl := Option.some.inj H
    go_enter Try.func95, Try.ntmps95
    go_wp2_with (first | ((with_reducible refine gate_dst (N := 2) rfl ?_); refine box_event ?hg (N := 2) ?hd (cs := #[.int .i64 a0_0, .int .i64 a0_1, .int .i64 a0_2]) (t := 71) ?hr ?_; (case hd => rfl); (case hg => rfl); (case hr => first | (go_simp; done) | (go_simp; rfl)); intro gb991 hg w6 hbox hb; have n0_ := Aside0.mk (below_step (by repeat (first | (with_reducible first | exact HB.out | apply below_alloc | apply pw_below_drewN | apply below_drew1) | exact HB.out)) hb); have n1_ := Aside0.mk (hbox); have n2_ := Aside0.mk ((by rw [hg]; exact (below_size (by repeat (first | (with_reducible first | exact HB.out | apply below_alloc | apply pw_below_drewN | apply below_drew1) | exact HB.out))) : w.heap.size ≤ gb991)); have n3_ := Aside0.mk ((by rw [hg]; exact (below_size (by repeat (first | (with_reducible first | exact HB.out | apply below_alloc | apply pw_below_drewN | apply below_drew1) | exact HB.out))) : w.heap.size ≤ gb991)); clear HB; have HB := n0_; have BK991 := n1_; have GW991 := n2_; have GE991 := n3_; clear n0_ n1_ n2_ n3_; clear hb hbox hg) | ((with_reducible refine gate_dst (N := 3) rfl ?_); refine box_event ?hg (N := 3) ?hd (cs := #[.int .i64 a1_0, .int .i64 a1_1, .int .i64 a1_2]) (t := 71) ?hr ?_; (case hd => rfl); (case hg => rfl); (case hr => first | (go_simp; done) | (go_simp; rfl)); intro gb992 hg w7 hbox hb; have n0_ := Aside0.mk (blk_below (g := gb991) (o := .cells #[.int .i64 a0_0, .int .i64 a0_1, .int .i64 a0_2] 71 (0, 0)) (by (with_reducible repeat (first | refine blk_drewN ?_ _ | refine blk_drew ?_ | refine blk_alloc ?_ _)); exact BK991.out) hb); have n1_ := Aside0.mk (below_step (by repeat (first | (with_reducible first | exact HB.out | apply below_alloc | apply pw_below_drewN | apply below_drew1 | refine below_set ?_ GE991.out) | exact HB.out)) hb); have n2_ := Aside0.mk (hbox); have n3_ := Aside0.mk ((by rw [hg]; exact (below_size (by repeat (first | (with_reducible first | exact HB.out | apply below_alloc | apply pw_below_drewN | apply below_drew1 | refine below_set ?_ GE991.out) | exact HB.out))) : w.heap.size ≤ gb992)); have n4_ := Aside0.mk ((by rw [hg]; exact (below_size (by repeat (first | (with_reducible first | exact HB.out | apply below_alloc | apply pw_below_drewN | apply below_drew1 | refine below_set ?_ GE991.out) | exact HB.out))) : w.heap.size ≤ gb992)); have n5_ := Aside0.mk ((by rw [hg]; exact Nat.ne_of_lt (blk_lt (g := gb991) (o := .cells #[.int .i64 a0_0, .int .i64 a0_1, .int .i64 a0_2] 71 (0, 0)) (by (with_reducible repeat (first | refine blk_drewN ?_ _ | refine blk_drew ?_ | refine blk_alloc ?_ _)); exact BK991.out)) : gb991 ≠ gb992)); have n6_ := Aside0.mk ((by rw [hg]; exact Nat.ne_of_gt (blk_lt (g := gb991) (o := .cells #[.int .i64 a0_0, .int .i64 a0_1, .int .i64 a0_2] 71 (0, 0)) (by (with_reducible repeat (first | refine blk_drewN ?_ _ | refine blk_drew ?_ | refine blk_alloc ?_ _)); exact BK991.out)) : gb992 ≠ gb991)); clear BK991; clear HB; have BK991 := n0_; have HB := n1_; have BK992 := n2_; have GW992 := n3_; have GE992 := n4_; have NB991_992 := n5_; have NB992_991 := n6_; clear n0_ n1_ n2_ n3_ n4_ n5_ n6_; clear hb hbox hg; have hnb8 := NB991_992.out; have hnc8 := NB992_991.out; have hcz9_0 : w7.cell? ⟨gb991, 0, none⟩ = some (.int .i64 a0_0) := (blk_cell BK991.out 0).trans rfl; have hcz9_1 : w7.cell? ⟨gb991, 1, none⟩ = some (.int .i64 a0_1) := (blk_cell BK991.out 1).trans rfl; have hcz9_2 : w7.cell? ⟨gb991, 2, none⟩ = some (.int .i64 a0_2) := (blk_cell BK991.out 2).trans rfl; have hfz9_0 := blk_frozen BK991.out 0; have hfz9_1 := blk_frozen BK991.out 1; have hfz9_2 := blk_frozen BK991.out 2; have hcz10_0 : w7.cell? ⟨gb992, 0, none⟩ = some (.int .i64 a1_0) := (blk_cell BK992.out 0).trans rfl; have hcz10_1 : w7.cell? ⟨gb992, 1, none⟩ = some (.int .i64 a1_1) := (blk_cell BK992.out 1).trans rfl; have hcz10_2 : w7.cell? ⟨gb992, 2, none⟩ = some (.int .i64 a1_2) := (blk_cell BK992.out 2).trans rfl; have hfz10_0 := blk_frozen BK992.out 0; have hfz10_1 := blk_frozen BK992.out 1; have hfz10_2 := blk_frozen BK992.out 2))
    go_ret
    exact ⟨by first | rfl | (simp [errW_none, errW_some] <;> rfl) | (simp [*, errW_none, errW_some] <;> rfl), by repeat (first | (with_reducible first | exact HB.out | apply below_alloc | apply pw_below_drewN | apply below_drew1 | refine below_set ?_ GE991.out | refine below_set ?_ GE992.out) | exact HB.out)⟩
   ·
    rw [if_neg c5] at H
    have c5b0 : (a0_2 == a1_2) = false := beq_eq_false_iff_ne.mpr c5
    have c5b1 : (a0_2 != a1_2) = true := bne_iff_ne.mpr c5
    obtain rfl := Option.some.inj H
    go_enter Try.func95, Try.ntmps95
    go_wp2_with (first | ((with_reducible refine gate_dst (N := 2) rfl ?_); refine box_event ?hg (N := 2) ?hd (cs := #[.int .i64 a0_0, .int .i64 a0_1, .int .i64 a0_2]) (t := 71) ?hr ?_; (case hd => rfl); (case hg => rfl); (case hr => first | (go_simp; done) | (go_simp; rfl)); intro gb991 hg w11 hbox hb; have n0_ := Aside0.mk (below_step (by repeat (first | (with_reducible first | exact HB.out | apply below_alloc | apply pw_below_drewN | apply below_drew1) | exact HB.out)) hb); have n1_ := Aside0.mk (hbox); have n2_ := Aside0.mk ((by rw [hg]; exact (below_size (by repeat (first | (with_reducible first | exact HB.out | apply below_alloc | apply pw_below_drewN | apply below_drew1) | exact HB.out))) : w.heap.size ≤ gb991)); have n3_ := Aside0.mk ((by rw [hg]; exact (below_size (by repeat (first | (with_reducible first | exact HB.out | apply below_alloc | apply pw_below_drewN | apply below_drew1) | exact HB.out))) : w.heap.size ≤ gb991)); clear HB; have HB := n0_; have BK991 := n1_; have GW991 := n2_; have GE991 := n3_; clear n0_ n1_ n2_ n3_; clear hb hbox hg) | ((with_reducible refine gate_dst (N := 3) rfl ?_); refine box_event ?hg (N := 3) ?hd (cs := #[.int .i64 a1_0, .int .i64 a1_1, .int .i64 a1_2]) (t := 71) ?hr ?_; (case hd => rfl); (case hg => rfl); (case hr => first | (go_simp; done) | (go_simp; rfl)); intro gb992 hg w12 hbox hb; have n0_ := Aside0.mk (blk_below (g := gb991) (o := .cells #[.int .i64 a0_0, .int .i64 a0_1, .int .i64 a0_2] 71 (0, 0)) (by (with_reducible repeat (first | refine blk_drewN ?_ _ | refine blk_drew ?_ | refine blk_alloc ?_ _)); exact BK991.out) hb); have n1_ := Aside0.mk (below_step (by repeat (first | (with_reducible first | exact HB.out | apply below_alloc | apply pw_below_drewN | apply below_drew1 | refine below_set ?_ GE991.out) | exact HB.out)) hb); have n2_ := Aside0.mk (hbox); have n3_ := Aside0.mk ((by rw [hg]; exact (below_size (by repeat (first | (with_reducible first | exact HB.out | apply below_alloc | apply pw_below_drewN | apply below_drew1 | refine below_set ?_ GE991.out) | exact HB.out))) : w.heap.size ≤ gb992)); have n4_ := Aside0.mk ((by rw [hg]; exact (below_size (by repeat (first | (with_reducible first | exact HB.out | apply below_alloc | apply pw_below_drewN | apply below_drew1 | refine below_set ?_ GE991.out) | exact HB.out))) : w.heap.size ≤ gb992)); have n5_ := Aside0.mk ((by rw [hg]; exact Nat.ne_of_lt (blk_lt (g := gb991) (o := .cells #[.int .i64 a0_0, .int .i64 a0_1, .int .i64 a0_2] 71 (0, 0)) (by (with_reducible repeat (first | refine blk_drewN ?_ _ | refine blk_drew ?_ | refine blk_alloc ?_ _)); exact BK991.out)) : gb991 ≠ gb992)); have n6_ := Aside0.mk ((by rw [hg]; exact Nat.ne_of_gt (blk_lt (g := gb991) (o := .cells #[.int .i64 a0_0, .int .i64 a0_1, .int .i64 a0_2] 71 (0, 0)) (by (with_reducible repeat (first | refine blk_drewN ?_ _ | refine blk_drew ?_ | refine blk_alloc ?_ _)); exact BK991.out)) : gb992 ≠ gb991)); clear BK991; clear HB; have BK991 := n0_; have HB := n1_; have BK992 := n2_; have GW992 := n3_; have GE992 := n4_; have NB991_992 := n5_; have NB992_991 := n6_; clear n0_ n1_ n2_ n3_ n4_ n5_ n6_; clear hb hbox hg; have hnb13 := NB991_992.out; have hnc13 := NB992_991.out; have hcz14_0 : w12.cell? ⟨gb991, 0, none⟩ = some (.int .i64 a0_0) := (blk_cell BK991.out 0).trans rfl; have hcz14_1 : w12.cell? ⟨gb991, 1, none⟩ = some (.int .i64 a0_1) := (blk_cell BK991.out 1).trans rfl; have hcz14_2 : w12.cell? ⟨gb991, 2, none⟩ = some (.int .i64 a0_2) := (blk_cell BK991.out 2).trans rfl; have hfz14_0 := blk_frozen BK991.out 0; have hfz14_1 := blk_frozen BK991.out 1; have hfz14_2 := blk_frozen BK991.out 2; have hcz15_0 : w12.cell? ⟨gb992, 0, none⟩ = some (.int .i64 a1_0) := (blk_cell BK992.out 0).trans rfl; have hcz15_1 : w12.cell? ⟨gb992, 1, none⟩ = some (.int .i64 a1_1) := (blk_cell BK992.out 1).trans rfl; have hcz15_2 : w12.cell? ⟨gb992, 2, none⟩ = some (.int .i64 a1_2) := (blk_cell BK992.out 2).trans rfl; have hfz15_0 := blk_frozen BK992.out 0; have hfz15_1 := blk_frozen BK992.out 1; have hfz15_2 := blk_frozen BK992.out 2))
    go_ret
    exact ⟨by first | rfl | (simp [errW_none, errW_some] <;> rfl) | (simp [*, errW_none, errW_some] <;> rfl), by repeat (first | (with_reducible first | exact HB.out | apply below_alloc | apply pw_below_drewN | apply below_drew1 | refine below_set ?_ GE991.out | refine below_set ?_ GE992.out) | exact HB.out)⟩
  ·
   rw [if_neg c4] at H
   have c4b0 : (a0_1 == a1_1) = false := beq_eq_false_iff_ne.mpr c4
   have c4b1 : (a0_1 != a1_1) = true := bne_iff_ne.mpr c4
   obtain rfl := Option.some.inj H
   go_enter Try.func95, Try.ntmps95
   go_wp2_with (first | ((with_reducible refine gate_dst (N := 2) rfl ?_); refine box_event ?hg (N := 2) ?hd (cs := #[.int .i64 a0_0, .int .i64 a0_1, .int .i64 a0_2]) (t := 71) ?hr ?_; (case hd => rfl); (case hg => rfl); (case hr => first | (go_simp; done) | (go_simp; rfl)); intro gb991 hg w16 hbox hb; have n0_ := Aside0.mk (below_step (by repeat (first | (with_reducible first | exact HB.out | apply below_alloc | apply pw_below_drewN | apply below_drew1) | exact HB.out)) hb); have n1_ := Aside0.mk (hbox); have n2_ := Aside0.mk ((by rw [hg]; exact (below_size (by repeat (first | (with_reducible first | exact HB.out | apply below_alloc | apply pw_below_drewN | apply below_drew1) | exact HB.out))) : w.heap.size ≤ gb991)); have n3_ := Aside0.mk ((by rw [hg]; exact (below_size (by repeat (first | (with_reducible first | exact HB.out | apply below_alloc | apply pw_below_drewN | apply below_drew1) | exact HB.out))) : w.heap.size ≤ gb991)); clear HB; have HB := n0_; have BK991 := n1_; have GW991 := n2_; have GE991 := n3_; clear n0_ n1_ n2_ n3_; clear hb hbox hg) | ((with_reducible refine gate_dst (N := 3) rfl ?_); refine box_event ?hg (N := 3) ?hd (cs := #[.int .i64 a1_0, .int .i64 a1_1, .int .i64 a1_2]) (t := 71) ?hr ?_; (case hd => rfl); (case hg => rfl); (case hr => first | (go_simp; done) | (go_simp; rfl)); intro gb992 hg w17 hbox hb; have n0_ := Aside0.mk (blk_below (g := gb991) (o := .cells #[.int .i64 a0_0, .int .i64 a0_1, .int .i64 a0_2] 71 (0, 0)) (by (with_reducible repeat (first | refine blk_drewN ?_ _ | refine blk_drew ?_ | refine blk_alloc ?_ _)); exact BK991.out) hb); have n1_ := Aside0.mk (below_step (by repeat (first | (with_reducible first | exact HB.out | apply below_alloc | apply pw_below_drewN | apply below_drew1 | refine below_set ?_ GE991.out) | exact HB.out)) hb); have n2_ := Aside0.mk (hbox); have n3_ := Aside0.mk ((by rw [hg]; exact (below_size (by repeat (first | (with_reducible first | exact HB.out | apply below_alloc | apply pw_below_drewN | apply below_drew1 | refine below_set ?_ GE991.out) | exact HB.out))) : w.heap.size ≤ gb992)); have n4_ := Aside0.mk ((by rw [hg]; exact (below_size (by repeat (first | (with_reducible first | exact HB.out | apply below_alloc | apply pw_below_drewN | apply below_drew1 | refine below_set ?_ GE991.out) | exact HB.out))) : w.heap.size ≤ gb992)); have n5_ := Aside0.mk ((by rw [hg]; exact Nat.ne_of_lt (blk_lt (g := gb991) (o := .cells #[.int .i64 a0_0, .int .i64 a0_1, .int .i64 a0_2] 71 (0, 0)) (by (with_reducible repeat (first | refine blk_drewN ?_ _ | refine blk_drew ?_ | refine blk_alloc ?_ _)); exact BK991.out)) : gb991 ≠ gb992)); have n6_ := Aside0.mk ((by rw [hg]; exact Nat.ne_of_gt (blk_lt (g := gb991) (o := .cells #[.int .i64 a0_0, .int .i64 a0_1, .int .i64 a0_2] 71 (0, 0)) (by (with_reducible repeat (first | refine blk_drewN ?_ _ | refine blk_drew ?_ | refine blk_alloc ?_ _)); exact BK991.out)) : gb992 ≠ gb991)); clear BK991; clear HB; have BK991 := n0_; have HB := n1_; have BK992 := n2_; have GW992 := n3_; have GE992 := n4_; have NB991_992 := n5_; have NB992_991 := n6_; clear n0_ n1_ n2_ n3_ n4_ n5_ n6_; clear hb hbox hg; have hnb18 := NB991_992.out; have hnc18 := NB992_991.out; have hcz19_0 : w17.cell? ⟨gb991, 0, none⟩ = some (.int .i64 a0_0) := (blk_cell BK991.out 0).trans rfl; have hcz19_1 : w17.cell? ⟨gb991, 1, none⟩ = some (.int .i64 a0_1) := (blk_cell BK991.out 1).trans rfl; have hcz19_2 : w17.cell? ⟨gb991, 2, none⟩ = some (.int .i64 a0_2) := (blk_cell BK991.out 2).trans rfl; have hfz19_0 := blk_frozen BK991.out 0; have hfz19_1 := blk_frozen BK991.out 1; have hfz19_2 := blk_frozen BK991.out 2; have hcz20_0 : w17.cell? ⟨gb992, 0, none⟩ = some (.int .i64 a1_0) := (blk_cell BK992.out 0).trans rfl; have hcz20_1 : w17.cell? ⟨gb992, 1, none⟩ = some (.int .i64 a1_1) := (blk_cell BK992.out 1).trans rfl; have hcz20_2 : w17.cell? ⟨gb992, 2, none⟩ = some (.int .i64 a1_2) := (blk_cell BK992.out 2).trans rfl; have hfz20_0 := blk_frozen BK992.out 0; have hfz20_1 := blk_frozen BK992.out 1; have hfz20_2 := blk_frozen BK992.out 2))
   go_ret
   exact ⟨by first | rfl | (simp [errW_none, errW_some] <;> rfl) | (simp [*, errW_none, errW_some] <;> rfl), by repeat (first | (with_reducible first | exact HB.out | apply below_alloc | apply pw_below_drewN | apply below_drew1 | refine below_set ?_ GE991.out | refine below_set ?_ GE992.out) | exact HB.out)⟩
 ·
  rw [if_neg c3] at H
  have c3b0 : (a0_0 == a1_0) = false := beq_eq_false_iff_ne.mpr c3
  have c3b1 : (a0_0 != a1_0) = true := bne_iff_ne.mpr c3
  obtain rfl := Option.some.inj H
  go_enter Try.func95, Try.ntmps95
  go_wp2_with (first | ((with_reducible refine gate_dst (N := 2) rfl ?_); refine box_event ?hg (N := 2) ?hd (cs := #[.int .i64 a0_0, .int .i64 a0_1, .int .i64 a0_2]) (t := 71) ?hr ?_; (case hd => rfl); (case hg => rfl); (case hr => first | (go_simp; done) | (go_simp; rfl)); intro gb991 hg w21 hbox hb; have n0_ := Aside0.mk (below_step (by repeat (first | (with_reducible first | exact HB.out | apply below_alloc | apply pw_below_drewN | apply below_drew1) | exact HB.out)) hb); have n1_ := Aside0.mk (hbox); have n2_ := Aside0.mk ((by rw [hg]; exact (below_size (by repeat (first | (with_reducible first | exact HB.out | apply below_alloc | apply pw_below_drewN | apply below_drew1) | exact HB.out))) : w.heap.size ≤ gb991)); have n3_ := Aside0.mk ((by rw [hg]; exact (below_size (by repeat (first | (with_reducible first | exact HB.out | apply below_alloc | apply pw_below_drewN | apply below_drew1) | exact HB.out))) : w.heap.size ≤ gb991)); clear HB; have HB := n0_; have BK991 := n1_; have GW991 := n2_; have GE991 := n3_; clear n0_ n1_ n2_ n3_; clear hb hbox hg) | ((with_reducible refine gate_dst (N := 3) rfl ?_); refine box_event ?hg (N := 3) ?hd (cs := #[.int .i64 a1_0, .int .i64 a1_1, .int .i64 a1_2]) (t := 71) ?hr ?_; (case hd => rfl); (case hg => rfl); (case hr => first | (go_simp; done) | (go_simp; rfl)); intro gb992 hg w22 hbox hb; have n0_ := Aside0.mk (blk_below (g := gb991) (o := .cells #[.int .i64 a0_0, .int .i64 a0_1, .int .i64 a0_2] 71 (0, 0)) (by (with_reducible repeat (first | refine blk_drewN ?_ _ | refine blk_drew ?_ | refine blk_alloc ?_ _)); exact BK991.out) hb); have n1_ := Aside0.mk (below_step (by repeat (first | (with_reducible first | exact HB.out | apply below_alloc | apply pw_below_drewN | apply below_drew1 | refine below_set ?_ GE991.out) | exact HB.out)) hb); have n2_ := Aside0.mk (hbox); have n3_ := Aside0.mk ((by rw [hg]; exact (below_size (by repeat (first | (with_reducible first | exact HB.out | apply below_alloc | apply pw_below_drewN | apply below_drew1 | refine below_set ?_ GE991.out) | exact HB.out))) : w.heap.size ≤ gb992)); have n4_ := Aside0.mk ((by rw [hg]; exact (below_size (by repeat (first | (with_reducible first | exact HB.out | apply below_alloc | apply pw_below_drewN | apply below_drew1 | refine below_set ?_ GE991.out) | exact HB.out))) : w.heap.size ≤ gb992)); have n5_ := Aside0.mk ((by rw [hg]; exact Nat.ne_of_lt (blk_lt (g := gb991) (o := .cells #[.int .i64 a0_0, .int .i64 a0_1, .int .i64 a0_2] 71 (0, 0)) (by (with_reducible repeat (first | refine blk_drewN ?_ _ | refine blk_drew ?_ | refine blk_alloc ?_ _)); exact BK991.out)) : gb991 ≠ gb992)); have n6_ := Aside0.mk ((by rw [hg]; exact Nat.ne_of_gt (blk_lt (g := gb991) (o := .cells #[.int .i64 a0_0, .int .i64 a0_1, .int .i64 a0_2] 71 (0, 0)) (by (with_reducible repeat (first | refine blk_drewN ?_ _ | refine blk_drew ?_ | refine blk_alloc ?_ _)); exact BK991.out)) : gb992 ≠ gb991)); clear BK991; clear HB; have BK991 := n0_; have HB := n1_; have BK992 := n2_; have GW992 := n3_; have GE992 := n4_; have NB991_992 := n5_; have NB992_991 := n6_; clear n0_ n1_ n2_ n3_ n4_ n5_ n6_; clear hb hbox hg; have hnb23 := NB991_992.out; have hnc23 := NB992_991.out; have hcz24_0 : w22.cell? ⟨gb991, 0, none⟩ = some (.int .i64 a0_0) := (blk_cell BK991.out 0).trans rfl; have hcz24_1 : w22.cell? ⟨gb991, 1, none⟩ = some (.int .i64 a0_1) := (blk_cell BK991.out 1).trans rfl; have hcz24_2 : w22.cell? ⟨gb991, 2, none⟩ = some (.int .i64 a0_2) := (blk_cell BK991.out 2).trans rfl; have hfz24_0 := blk_frozen BK991.out 0; have hfz24_1 := blk_frozen BK991.out 1; have hfz24_2 := blk_frozen BK991.out 2; have hcz25_0 : w22.cell? ⟨gb992, 0, none⟩ = some (.int .i64 a1_0) := (blk_cell BK992.out 0).trans rfl; have hcz25_1 : w22.cell? ⟨gb992, 1, none⟩ = some (.int .i64 a1_1) := (blk_cell BK992.out 1).trans rfl; have hcz25_2 : w22.cell? ⟨gb992, 2, none⟩ = some (.int .i64 a1_2) := (blk_cell BK992.out 2).trans rfl; have hfz25_0 := blk_frozen BK992.out 0; have hfz25_1 := blk_frozen BK992.out 1; have hfz25_2 := blk_frozen BK992.out 2))
  go_ret
  exact ⟨by first | rfl | (simp [errW_none, errW_some] <;> rfl) | (simp [*, errW_none, errW_some] <;> rfl), by repeat (first | (with_reducible first | exact HB.out | apply below_alloc | apply pw_below_drewN | apply below_drew1 | refine below_set ?_ GE991.out | refine below_set ?_ GE992.out) | exact HB.out)⟩

end Go.Proofs.Ytjjockhekaccnaa.X
namespace Go.Proofs.Ytjjockhekaccnaa.X
open Go.RowKit Go.Proofs.YtjjockhekaccnaaW.PrintWords Go.Proofs.YtjjockhekaccnaaW.PrintLast Go.Proofs.YtjjockhekaccnaaW.PrintMore
attribute [local go_sem] max2_int min2_int max_two min_two max_three min_three max_four min_four   -- for this text's walks alone
set_option linter.unusedVariables false
set_option linter.unusedSimpArgs false

/-! ### laws_eqPattern: function 53 -/
set_option maxHeartbeats 8000000 in
set_option maxRecDepth 100000 in
theorem laws_eqPattern.calls (k : Nat) (a0_0 : Int) (a0_1 : Int) (a0_2 : Int) (a0_3 : Int) (A0_4 : Option Addr) (c0_4 : Nat) (l0_4 : List Int) (a1_0 : Int) (a1_1 : Int) (a1_2 : Int) (a1_3 : Int) (A1_4 : Option Addr) (c1_4 : Nat) (l1_4 : List Int) (r : Bool) (w : World) (hr0_4 : Kd.C (Kd.int .i64) w A0_4 l0_4.length l0_4) (hc0_4 : l0_4.length ≤ c0_4) (hr1_4 : Kd.C (Kd.int .i64) w A1_4 l1_4.length l1_4) (hc1_4 : l1_4.length ≤ c1_4) (h : laws_eqPattern.f k a0_0 a0_1 a0_2 a0_3 l0_4 a1_0 a1_1 a1_2 a1_3 l1_4 = some r) :
  Calls Try.prog 53 #[.agg #[.int .i64 a0_0, .int .i64 a0_1, .int .i64 a0_2, .int .i64 a0_3, .slice A0_4 l0_4.length c0_4], .agg #[.int .i64 a1_0, .int .i64 a1_1, .int .i64 a1_2, .int .i64 a1_3, .slice A1_4 l1_4.length c1_4]] w fun e w' => e = .returned (.bool r) ∧ Below w.heap.size w w' := by
 have hu73 := Try.underlying73
 have hu71 := Try.underlying71
 have HR0_4 := Aside0.mk hr0_4
 have HC0_4 := Aside0.mk hc0_4
 clear hr0_4 hc0_4
 have HR1_4 := Aside0.mk hr1_4
 have HC1_4 := Aside0.mk hc1_4
 clear hr1_4 hc1_4
 have HB := Aside0.mk (Below.refl w.heap.size w)
 have H : (if a0_0 = a1_0 then ((laws_eqLattice.f a0_1 a0_2 a0_3 a1_1 a1_2 a1_3).bind fun t995 => (if t995 = true then ((laws_eqInt64S.f k l0_4 l1_4).bind fun t996 => (if t996 = true then (some true) else (some false))) else (some false))) else (some false)) = some r := h
 clear h
 by_cases c3 : a0_0 = a1_0
 ·
  rw [if_pos c3] at H
  have c3b0 : (a0_0 == a1_0) = true := beq_iff_eq.mpr c3
  have c3b1 : (a0_0 != a1_0) = false := bne_eq_false_iff_eq.mpr c3
  clear c3
  replace H := Option.bind_eq_some_iff.mp H
  obtain ⟨t995, A40, H⟩ := H
  replace H : (if t995 = true then ((laws_eqInt64S.f k l0_4 l1_4).bind fun t996 => (if t996 = true then (some true) else (some false))) else (some false)) = some r := H
  have A4 := Aside0.mk A40
  clear A40
  by_cases c5 : t995 = true
  ·
   subst c5
   have H1 : ((laws_eqInt64S.f k l0_4 l1_4).bind fun t996 => (if t996 = true then (some true) else (some false))) = some r := by rw [if_pos rfl] at H; exact H
   clear H
   have H := H1
   clear H1
   replace H := Option.bind_eq_some_iff.mp H
   obtain ⟨t996, A60, H⟩ := H
   replace H : (if t996 = true then (some true) else (some false)) = some r := H
   have A6 := Aside0.mk A60
   clear A60
   by_cases c7 : t996 = true
   ·
    subst c7
    have H1 : (some true) = some r := by rw [if_pos rfl] at H; exact H
    clear H
    have H := H1
    clear H1
    obtain rfl := Option.some.inj H
    go_enter Try.func53, Try.ntmps53
    go_wp2_with (first | ((with_reducible refine gate_dst (N := 2) rfl ?_); refine box_event ?hg (N := 2) ?hd (cs := #[.int .i64 a0_0, .int .i64 a0_1, .int .i64 a0_2, .int .i64 a0_3, .slice A0_4 l0_4.length c0_4]) (t := 73) ?hr ?_; (case hd => rfl); (case hg => rfl); (case hr => first | (go_simp; done) | (go_simp; rfl)); intro gb993 hg w8 hbox hb; have n0_ := Aside0.mk (below_step (by repeat (first | (with_reducible first | exact HB.out | apply below_alloc | apply pw_below_drewN | apply below_drew1) | exact HB.out)) hb); have n1_ := Aside0.mk (hbox); have n2_ := Aside0.mk ((by rw [hg]; exact (below_size (by repeat (first | (with_reducible first | exact HB.out | apply below_alloc | apply pw_below_drewN | apply below_drew1) | exact HB.out))) : w.heap.size ≤ gb993)); have n3_ := Aside0.mk ((by rw [hg]; exact (below_size (by repeat (first | (with_reducible first | exact HB.out | apply below_alloc | apply pw_below_drewN | apply below_drew1) | exact HB.out))) : w.heap.size ≤ gb993)); clear HB; have HB := n0_; have BK993 := n1_; have GW993 := n2_; have GE993 := n3_; clear n0_ n1_ n2_ n3_; clear hb hbox hg) | ((with_reducible refine gate_dst (N := 3) rfl ?_); refine box_event ?hg (N := 3) ?hd (cs := #[.int .i64 a1_0, .int .i64 a1_1, .int .i64 a1_2, .int .i64 a1_3, .slice A1_4 l1_4.length c1_4]) (t := 73) ?hr ?_; (case hd => rfl); (case hg => rfl); (case hr => first | (go_simp; done) | (go_simp; rfl)); intro gb994 hg w9 hbox hb; have n0_ := Aside0.mk (blk_below (g := gb993) (o := .cells #[.int .i64 a0_0, .int .i64 a0_1, .int .i64 a0_2, .int .i64 a0_3, .slice A0_4 l0_4.length c0_4] 73 (0, 0)) (by (with_reducible repeat (first | refine blk_drewN ?_ _ | refine blk_drew ?_ | refine blk_alloc ?_ _)); exact BK993.out) hb); have n1_ := Aside0.mk (below_step (by repeat (first | (with_reducible first | exact HB.out | apply below_alloc | apply pw_below_drewN | apply below_drew1 | refine below_set ?_ GE993.out) | exact HB.out)) hb); have n2_ := Aside0.mk (hbox); have n3_ := Aside0.mk ((by rw [hg]; exact (below_size (by repeat (first | (with_reducible first | exact HB.out | apply below_alloc | apply pw_below_drewN | apply below_drew1 | refine below_set ?_ GE993.out) | exact HB.out))) : w.heap.size ≤ gb994)); have n4_ := Aside0.mk ((by rw [hg]; exact (below_size (by repeat (first | (with_reducible first | exact HB.out | apply below_alloc | apply pw_below_drewN | apply below_drew1 | refine below_set ?_ GE993.out) | exact HB.out))) : w.heap.size ≤ gb994)); have n5_ := Aside0.mk ((by rw [hg]; exact Nat.ne_of_lt (blk_lt (g := gb993) (o := .cells #[.int .i64 a0_0, .int .i64 a0_1, .int .i64 a0_2, .int .i64 a0_3, .slice A0_4 l0_4.length c0_4] 73 (0, 0)) (by (with_reducible repeat (first | refine blk_drewN ?_ _ | refine blk_drew ?_ | refine blk_alloc ?_ _)); exact BK993.out)) : gb993 ≠ gb994)); have n6_ := Aside0.mk ((by rw [hg]; exact Nat.ne_of_gt (blk_lt (g := gb993) (o := .cells #[.int .i64 a0_0, .int .i64 a0_1, .int .i64 a0_2, .int .i64 a0_3, .slice A0_4 l0_4.length c0_4] 73 (0, 0)) (by (with_reducible repeat (first | refine blk_drewN ?_ _ | refine blk_drew ?_ | refine blk_alloc ?_ _)); exact BK993.out)) : gb994 ≠ gb993)); clear BK993; clear HB; have BK993 := n0_; have HB := n1_; have BK994 := n2_; have GW994 := n3_; have GE994 := n4_; have NB993_994 := n5_; have NB994_993 := n6_; clear n0_ n1_ n2_ n3_ n4_ n5_ n6_; clear hb hbox hg; have hnb10 := NB993_994.out; have hnc10 := NB994_993.out; have hcz11_0 : w9.cell? ⟨gb993, 0, none⟩ = some (.int .i64 a0_0) := (blk_cell BK993.out 0).trans rfl; have hcz11_1 : w9.cell? ⟨gb993, 1, none⟩ = some (.int .i64 a0_1) := (blk_cell BK993.out 1).trans rfl; have hcz11_2 : w9.cell? ⟨gb993, 2, none⟩ = some (.int .i64 a0_2) := (blk_cell BK993.out 2).trans rfl; have hcz11_3 : w9.cell? ⟨gb993, 3, none⟩ = some (.int .i64 a0_3) := (blk_cell BK993.out 3).trans rfl; have hcz11_4 : w9.cell? ⟨gb993, 4, none⟩ = some (.slice A0_4 l0_4.length c0_4) := (blk_cell BK993.out 4).trans rfl; have hfz11_0 := blk_frozen BK993.out 0; have hfz11_1 := blk_frozen BK993.out 1; have hfz11_2 := blk_frozen BK993.out 2; have hfz11_3 := blk_frozen BK993.out 3; have hfz11_4 := blk_frozen BK993.out 4; have hcz12_0 : w9.cell? ⟨gb994, 0, none⟩ = some (.int .i64 a1_0) := (blk_cell BK994.out 0).trans rfl; have hcz12_1 : w9.cell? ⟨gb994, 1, none⟩ = some (.int .i64 a1_1) := (blk_cell BK994.out 1).trans rfl; have hcz12_2 : w9.cell? ⟨gb994, 2, none⟩ = some (.int .i64 a1_2) := (blk_cell BK994.out 2).trans rfl; have hcz12_3 : w9.cell? ⟨gb994, 3, none⟩ = some (.int .i64 a1_3) := (blk_cell BK994.out 3).trans rfl; have hcz12_4 : w9.cell? ⟨gb994, 4, none⟩ = some (.slice A1_4 l1_4.length c1_4) := (blk_cell BK994.out 4).trans rfl; have hfz12_0 := blk_frozen BK994.out 0; have hfz12_1 := blk_frozen BK994.out 1; have hfz12_2 := blk_frozen BK994.out 2; have hfz12_3 := blk_frozen BK994.out 3; have hfz12_4 := blk_frozen BK994.out 4) | ((with_reducible refine gate_callee (f := 95) rfl ?_); refine goesL_ (some 14) rfl rfl Try.func95 (by kernel_rfl) rfl #[.agg #[.int .i64 a0_1, .int .i64 a0_2, .int .i64 a0_3], .agg #[.int .i64 a1_1, .int .i64 a1_2, .int .i64 a1_3]] rfl (by (try simp only [List.map_toArray, List.map_cons, List.map_nil]); first | done | rfl | (simp only [List.length_drop, List.length_take]; rfl)) ?_; (with_reducible refine (laws_eqLattice.calls a0_1 a0_2 a0_3 a1_1 a1_2 a1_3 true _ A4.out).mono ?_); rintro e w13 ⟨rfl, hb⟩; refine ⟨_, rfl, ?_⟩; have n0_ := Aside0.mk (blk_below (g := gb993) (o := .cells #[.int .i64 a0_0, .int .i64 a0_1, .int .i64 a0_2, .int .i64 a0_3, .slice A0_4 l0_4.length c0_4] 73 (0, 0)) (by (with_reducible repeat (first | refine blk_drewN ?_ _ | refine blk_drew ?_ | refine blk_alloc ?_ _)); exact BK993.out) hb); have n1_ := Aside0.mk (blk_below (g := gb994) (o := .cells #[.int .i64 a1_0, .int .i64 a1_1, .int .i64 a1_2, .int .i64 a1_3, .slice A1_4 l1_4.length c1_4] 73 (0, 0)) (by (with_reducible repeat (first | refine blk_drewN ?_ _ | refine blk_drew ?_ | refine blk_alloc ?_ _)); exact BK994.out) hb); have n2_ := Aside0.mk (below_step (by repeat (first | (with_reducible first | exact HB.out | apply below_alloc | apply pw_below_drewN | apply below_drew1 | refine below_set ?_ GE993.out | refine below_set ?_ GE994.out) | exact HB.out)) hb); clear BK993; clear BK994; clear HB; have BK993 := n0_; have BK994 := n1_; have HB := n2_; clear n0_ n1_ n2_; (try clear hb); (try clear hb2); (try clear hk); (try clear hi); have hcz14_0 : w13.cell? ⟨gb993, 0, none⟩ = some (.int .i64 a0_0) := (blk_cell BK993.out 0).trans rfl; have hcz14_1 : w13.cell? ⟨gb993, 1, none⟩ = some (.int .i64 a0_1) := (blk_cell BK993.out 1).trans rfl; have hcz14_2 : w13.cell? ⟨gb993, 2, none⟩ = some (.int .i64 a0_2) := (blk_cell BK993.out 2).trans rfl; have hcz14_3 : w13.cell? ⟨gb993, 3, none⟩ = some (.int .i64 a0_3) := (blk_cell BK993.out 3).trans rfl; have hcz14_4 : w13.cell? ⟨gb993, 4, none⟩ = some (.slice A0_4 l0_4.length c0_4) := (blk_cell BK993.out 4).trans rfl; have hfz14_0 := blk_frozen BK993.out 0; have hfz14_1 := blk_frozen BK993.out 1; have hfz14_2 := blk_frozen BK993.out 2; have hfz14_3 := blk_frozen BK993.out 3; have hfz14_4 := blk_frozen BK993.out 4; have hcz15_0 : w13.cell? ⟨gb994, 0, none⟩ = some (.int .i64 a1_0) := (blk_cell BK994.out 0).trans rfl; have hcz15_1 : w13.cell? ⟨gb994, 1, none⟩ = some (.int .i64 a1_1) := (blk_cell BK994.out 1).trans rfl; have hcz15_2 : w13.cell? ⟨gb994, 2, none⟩ = some (.int .i64 a1_2) := (blk_cell BK994.out 2).trans rfl; have hcz15_3 : w13.cell? ⟨gb994, 3, none⟩ = some (.int .i64 a1_3) := (blk_cell BK994.out 3).trans rfl; have hcz15_4 : w13.cell? ⟨gb994, 4, none⟩ = some (.slice A1_4 l1_4.length c1_4) := (blk_cell BK994.out 4).trans rfl; have hfz15_0 := blk_frozen BK994.out 0; have hfz15_1 := blk_frozen BK994.out 1; have hfz15_2 := blk_frozen BK994.out 2; have hfz15_3 := blk_frozen BK994.out 3; have hfz15_4 := blk_frozen BK994.out 4) | ((with_reducible refine gate_callee (f := 64) rfl ?_); refine goesL_ (some 20) rfl rfl Try.func64 (by kernel_rfl) rfl #[.slice A0_4 l0_4.length c0_4, .slice A1_4 l1_4.length c1_4] rfl (by (try simp only [List.map_toArray, List.map_cons, List.map_nil]); first | done | rfl | (simp only [List.length_drop, List.length_take]; rfl)) ?_; (with_reducible refine (laws_eqInt64S.calls k _ _ l0_4 _ _ l1_4 true _ ?side1 ?side2 ?side3 ?side4 A6.out).mono ?_); (case side1 => repeat (first | exact (Kd.C_below HR0_4.out HB.out) | (with_reducible refine Kd.C_alloc ?_ _) | (with_reducible refine Kd.C_drewN ?_ _) | (with_reducible refine Kd.C_drew ?_))); (case side2 => exact HC0_4.out); (case side3 => repeat (first | exact (Kd.C_below HR1_4.out HB.out) | (with_reducible refine Kd.C_alloc ?_ _) | (with_reducible refine Kd.C_drewN ?_ _) | (with_reducible refine Kd.C_drew ?_))); (case side4 => exact HC1_4.out); rintro e w' ⟨rfl, ⟨nd, rfl⟩⟩; refine ⟨_, rfl, ?_⟩))
    go_ret
    exact ⟨by first | rfl | (simp [errW_none, errW_some] <;> rfl) | (simp [*, errW_none, errW_some] <;> rfl), by repeat (first | (with_reducible first | exact HB.out | apply below_alloc | apply pw_below_drewN | apply below_drew1 | refine below_set ?_ GE993.out | refine below_set ?_ GE994.out) | exact HB.out)⟩
   ·
    replace c7 := Bool.eq_false_iff.mpr c7
    subst c7
    have H1 : (some false) = some r := by rw [if_neg (show ¬ (false = true) by decide)] at H; exact H
    clear H
    have H := H1
    clear H1
    obtain rfl := Option.some.inj H
    go_enter Try.func53, Try.ntmps53
    go_wp2_with (first | ((with_reducible refine gate_dst (N := 2) rfl ?_); refine box_event ?hg (N := 2) ?hd (cs := #[.int .i64 a0_0, .int .i64 a0_1, .int .i64 a0_2, .int .i64 a0_3, .slice A0_4 l0_4.length c0_4]) (t := 73) ?hr ?_; (case hd => rfl); (case hg => rfl); (case hr => first | (go_simp; done) | (go_simp; rfl)); intro gb993 hg w16 hbox hb; have n0_ := Aside0.mk (below_step (by repeat (first | (with_reducible first | exact HB.out | apply below_alloc | apply pw_below_drewN | apply below_drew1) | exact HB.out)) hb); have n1_ := Aside0.mk (hbox); have n2_ := Aside0.mk ((by rw [hg]; exact (below_size (by repeat (first | (with_reducible first | exact HB.out | apply below_alloc | apply pw_below_drewN | apply below_drew1) | exact HB.out))) : w.heap.size ≤ gb993)); have n3_ := Aside0.mk ((by rw [hg]; exact (below_size (by repeat (first | (with_reducible first | exact HB.out | apply below_alloc | apply pw_below_drewN | apply below_drew1) | exact HB.out))) : w.heap.size ≤ gb993)); clear HB; have HB := n0_; have BK993 := n1_; have GW993 := n2_; have GE993 := n3_; clear n0_ n1_ n2_ n3_; clear hb hbox hg) | ((with_reducible refine gate_dst (N := 3) rfl ?_); refine box_event ?hg (N := 3) ?hd (cs := #[.int .i64 a1_0, .int .i64 a1_1, .int .i64 a1_2, .int .i64 a1_3, .slice A1_4 l1_4.length c1_4]) (t := 73) ?hr ?_; (case hd => rfl); (case hg => rfl); (case hr => first | (go_simp; done) | (go_simp; rfl)); intro gb994 hg w17 hbox hb; have n0_ := Aside0.mk (blk_below (g := gb993) (o := .cells #[.int .i64 a0_0, .int .i64 a0_1, .int .i64 a0_2, .int .i64 a0_3, .slice A0_4 l0_4.length c0_4] 73 (0, 0)) (by (with_reducible repeat (first | refine blk_drewN ?_ _ | refine blk_drew ?_ | refine blk_alloc ?_ _)); exact BK993.out) hb); have n1_ := Aside0.mk (below_step (by repeat (first | (with_reducible first | exact HB.out | apply below_alloc | apply pw_below_drewN | apply below_drew1 | refine below_set ?_ GE993.out) | exact HB.out)) hb); have n2_ := Aside0.mk (hbox); have n3_ := Aside0.mk ((by rw [hg]; exact (below_size (by repeat (first | (with_reducible first | exact HB.out | apply below_alloc | apply pw_below_drewN | apply below_drew1 | refine below_set ?_ GE993.out) | exact HB.out))) : w.heap.size ≤ gb994)); have n4_ := Aside0.mk ((by rw [hg]; exact (below_size (by repeat (first | (with_reducible first | exact HB.out | apply below_alloc | apply pw_below_drewN | apply below_drew1 | refine below_set ?_ GE993.out) | exact HB.out))) : w.heap.size ≤ gb994)); have n5_ := Aside0.mk ((by rw [hg]; exact Nat.ne_of_lt (blk_lt (g := gb993) (o := .cells #[.int .i64 a0_0, .int .i64 a0_1, .int .i64 a0_2, .int .i64 a0_3, .slice A0_4 l0_4.length c0_4] 73 (0, 0)) (by (with_reducible repeat (first | refine blk_drewN ?_ _ | refine blk_drew ?_ | refine blk_alloc ?_ _)); exact BK993.out)) : gb993 ≠ gb994)); have n6_ := Aside0.mk ((by rw [hg]; exact Nat.ne_of_gt (blk_lt (g := gb993) (o := .cells #[.int .i64 a0_0, .int .i64 a0_1, .int .i64 a0_2, .int .i64 a0_3, .slice A0_4 l0_4.length c0_4] 73 (0, 0)) (by (with_reducible repeat (first | refine blk_drewN ?_ _ | refine blk_drew ?_ | refine blk_alloc ?_ _)); exact BK993.out)) : gb994 ≠ gb993)); clear BK993; clear HB; have BK993 := n0_; have HB := n1_; have BK994 := n2_; have GW994 := n3_; have GE994 := n4_; have NB993_994 := n5_; have NB994_993 := n6_; clear n0_ n1_ n2_ n3_ n4_ n5_ n6_; clear hb hbox hg; have hnb18 := NB993_994.out; have hnc18 := NB994_993.out; have hcz19_0 : w17.cell? ⟨gb993, 0, none⟩ = some (.int .i64 a0_0) := (blk_cell BK993.out 0).trans rfl; have hcz19_1 : w17.cell? ⟨gb993, 1, none⟩ = some (.int .i64 a0_1) := (blk_cell BK993.out 1).trans rfl; have hcz19_2 : w17.cell? ⟨gb993, 2, none⟩ = some (.int .i64 a0_2) := (blk_cell BK993.out 2).trans rfl; have hcz19_3 : w17.cell? ⟨gb993, 3, none⟩ = some (.int .i64 a0_3) := (blk_cell BK993.out 3).trans rfl; have hcz19_4 : w17.cell? ⟨gb993, 4, none⟩ = some (.slice A0_4 l0_4.length c0_4) := (blk_cell BK993.out 4).trans rfl; have hfz19_0 := blk_frozen BK993.out 0; have hfz19_1 := blk_frozen BK993.out 1; have hfz19_2 := blk_frozen BK993.out 2; have hfz19_3 := blk_frozen BK993.out 3; have hfz19_4 := blk_frozen BK993.out 4; have hcz20_0 : w17.cell? ⟨gb994, 0, none⟩ = some (.int .i64 a1_0) := (blk_cell BK994.out 0).trans rfl; have hcz20_1 : w17.cell? ⟨gb994, 1, none⟩ = some (.int .i64 a1_1) := (blk_cell BK994.out 1).trans rfl; have hcz20_2 : w17.cell? ⟨gb994, 2, none⟩ = some (.int .i64 a1_2) := (blk_cell BK994.out 2).trans rfl; have hcz20_3 : w17.cell? ⟨gb994, 3, none⟩ = some (.int .i64 a1_3) := (blk_cell BK994.out 3).trans rfl; have hcz20_4 : w17.cell? ⟨gb994, 4, none⟩ = some (.slice A1_4 l1_4.length c1_4) := (blk_cell BK994.out 4).trans rfl; have hfz20_0 := blk_frozen BK994.out 0; have hfz20_1 := blk_frozen BK994.out 1; have hfz20_2 := blk_frozen BK994.out 2; have hfz20_3 := blk_frozen BK994.out 3; have hfz20_4 := blk_frozen BK994.out 4) | ((with_reducible refine gate_callee (f := 95) rfl ?_); refine goesL_ (some 14) rfl rfl Try.func95 (by kernel_rfl) rfl #[.agg #[.int .i64 a0_1, .int .i64 a0_2, .int .i64 a0_3], .agg #[.int .i64 a1_1, .int .i64 a1_2, .int .i64 a1_3]] rfl (by (try simp only [List.map_toArray, List.map_cons, List.map_nil]); first | done | rfl | (simp only [List.length_drop, List.length_take]; rfl)) ?_; (with_reducible refine (laws_eqLattice.calls a0_1 a0_2 a0_3 a1_1 a1_2 a1_3 true _ A4.out).mono ?_); rintro e w21 ⟨rfl, hb⟩; refine ⟨_, rfl, ?_⟩; have n0_ := Aside0.mk (blk_below (g := gb993) (o := .cells #[.int .i64 a0_0, .int .i64 a0_1, .int .i64 a0_2, .int .i64 a0_3, .slice A0_4 l0_4.length c0_4] 73 (0, 0)) (by (with_reducible repeat (first | refine blk_drewN ?_ _ | refine blk_drew ?_ | refine blk_alloc ?_ _)); exact BK993.out) hb); have n1_ := Aside0.mk (blk_below (g := gb994) (o := .cells #[.int .i64 a1_0, .int .i64 a1_1, .int .i64 a1_2, .int .i64 a1_3, .slice A1_4 l1_4.length c1_4] 73 (0, 0)) (by (with_reducible repeat (first | refine blk_drewN ?_ _ | refine blk_drew ?_ | refine blk_alloc ?_ _)); exact BK994.out) hb); have n2_ := Aside0.mk (below_step (by repeat (first | (with_reducible first | exact HB.out | apply below_alloc | apply pw_below_drewN | apply below_drew1 | refine below_set ?_ GE993.out | refine below_set ?_ GE994.out) | exact HB.out)) hb); clear BK993; clear BK994; clear HB; have BK993 := n0_; have BK994 := n1_; have HB := n2_; clear n0_ n1_ n2_; (try clear hb); (try clear hb2); (try clear hk); (try clear hi); have hcz22_0 : w21.cell? ⟨gb993, 0, none⟩ = some (.int .i64 a0_0) := (blk_cell BK993.out 0).trans rfl; have hcz22_1 : w21.cell? ⟨gb993, 1, none⟩ = some (.int .i64 a0_1) := (blk_cell BK993.out 1).trans rfl; have hcz22_2 : w21.cell? ⟨gb993, 2, none⟩ = some (.int .i64 a0_2) := (blk_cell BK993.out 2).trans rfl; have hcz22_3 : w21.cell? ⟨gb993, 3, none⟩ = some (.int .i64 a0_3) := (blk_cell BK993.out 3).trans rfl; have hcz22_4 : w21.cell? ⟨gb993, 4, none⟩ = some (.slice A0_4 l0_4.length c0_4) := (blk_cell BK993.out 4).trans rfl; have hfz22_0 := blk_frozen BK993.out 0; have hfz22_1 := blk_frozen BK993.out 1; have hfz22_2 := blk_frozen BK993.out 2; have hfz22_3 := blk_frozen BK993.out 3; have hfz22_4 := blk_frozen BK993.out 4; have hcz23_0 : w21.cell? ⟨gb994, 0, none⟩ = some (.int .i64 a1_0) := (blk_cell BK994.out 0).trans rfl; have hcz23_1 : w21.cell? ⟨gb994, 1, none⟩ = some (.int .i64 a1_1) := (blk_cell BK994.out 1).trans rfl; have hcz23_2 : w21.cell? ⟨gb994, 2, none⟩ = some (.int .i64 a1_2) := (blk_cell BK994.out 2).trans rfl; have hcz23_3 : w21.cell? ⟨gb994, 3, none⟩ = some (.int .i64 a1_3) := (blk_cell BK994.out 3).trans rfl; have hcz23_4 : w21.cell? ⟨gb994, 4, none⟩ = some (.slice A1_4 l1_4.length c1_4) := (blk_cell BK994.out 4).trans rfl; have hfz23_0 := blk_frozen BK994.out 0; have hfz23_1 := blk_frozen BK994.out 1; have hfz23_2 := blk_frozen BK994.out 2; have hfz23_3 := blk_frozen BK994.out 3; have hfz23_4 := blk_frozen BK994.out 4) | ((with_reducible refine gate_callee (f := 64) rfl ?_); refine goesL_ (some 20) rfl rfl Try.func64 (by kernel_rfl) rfl #[.slice A0_4 l0_4.length c0_4, .slice A1_4 l1_4.length c1_4] rfl (by (try simp only [List.map_toArray, List.map_cons, List.map_nil]); first | done | rfl | (simp only [List.length_drop, List.length_take]; rfl)) ?_; (with_reducible refine (laws_eqInt64S.calls k _ _ l0_4 _ _ l1_4 false _ ?side1 ?side2 ?side3 ?side4 A6.out).mono ?_); (case side1 => repeat (first | exact (Kd.C_below HR0_4.out HB.out) | (with_reducible refine Kd.C_alloc ?_ _) | (with_reducible refine Kd.C_drewN ?_ _) | (with_reducible refine Kd.C_drew ?_))); (case side2 => exact HC0_4.out); (case side3 => repeat (first | exact (Kd.C_below HR1_4.out HB.out) | (with_reducible refine Kd.C_alloc ?_ _) | (with_reducible refine Kd.C_drewN ?_ _) | (with_reducible refine Kd.C_drew ?_))); (case side4 => exact HC1_4.out); rintro e w' ⟨rfl, ⟨nd, rfl⟩⟩; refine ⟨_, rfl, ?_⟩))
    go_ret
    exact ⟨by first | rfl | (simp [errW_none, errW_some] <;> rfl) | (simp [*, errW_none, errW_some] <;> rfl), by repeat (first | (with_reducible first | exact HB.out | apply below_alloc | apply pw_below_drewN | apply below_drew1 | refine below_set ?_ GE993.out | refine below_set ?_ GE994.out) | exact HB.out)⟩
  ·
   replace c5 := Bool.eq_false_iff.mpr c5
   subst c5
   have H1 : (some false) = some r := by rw [if_neg (show ¬ (false = true) by decide)] at H; exact H
   clear H
   have H := H1
   clear H1
   obtain rfl := Option.some.inj H
   go_enter Try.func53, Try.ntmps53
   go_wp2_with (first | ((with_reducible refine gate_dst (N := 2) rfl ?_); refine box_event ?hg (N := 2) ?hd (cs := #[.int .i64 a0_0, .int .i64 a0_1, .int .i64 a0_2, .int .i64 a0_3, .slice A0_4 l0_4.length c0_4]) (t := 73) ?hr ?_; (case hd => rfl); (case hg => rfl); (case hr => first | (go_simp; done) | (go_simp; rfl)); intro gb993 hg w24 hbox hb; have n0_ := Aside0.mk (below_step (by repeat (first | (with_reducible first | exact HB.out | apply below_alloc | apply pw_below_drewN | apply below_drew1) | exact HB.out)) hb); have n1_ := Aside0.mk (hbox); have n2_ := Aside0.mk ((by rw [hg]; exact (below_size (by repeat (first | (with_reducible first | exact HB.out | apply below_alloc | apply pw_below_drewN | apply below_drew1) | exact HB.out))) : w.heap.size ≤ gb993)); have n3_ := Aside0.mk ((by rw [hg]; exact (below_size (by repeat (first | (with_reducible first | exact HB.out | apply below_alloc | apply pw_below_drewN | apply below_drew1) | exact HB.out))) : w.heap.size ≤ gb993)); clear HB; have HB := n0_; have BK993 := n1_; have GW993 := n2_; have GE993 := n3_; clear n0_ n1_ n2_ n3_; clear hb hbox hg) | ((with_reducible refine gate_dst (N := 3) rfl ?_); refine box_event ?hg (N := 3) ?hd (cs := #[.int .i64 a1_0, .int .i64 a1_1, .int .i64 a1_2, .int .i64 a1_3, .slice A1_4 l1_4.length c1_4]) (t := 73) ?hr ?_; (case hd => rfl); (case hg => rfl); (case hr => first | (go_simp; done) | (go_simp; rfl)); intro gb994 hg w25 hbox hb; have n0_ := Aside0.mk (blk_below (g := gb993) (o := .cells #[.int .i64 a0_0, .int .i64 a0_1, .int .i64 a0_2, .int .i64 a0_3, .slice A0_4 l0_4.length c0_4] 73 (0, 0)) (by (with_reducible repeat (first | refine blk_drewN ?_ _ | refine blk_drew ?_ | refine blk_alloc ?_ _)); exact BK993.out) hb); have n1_ := Aside0.mk (below_step (by repeat (first | (with_reducible first | exact HB.out | apply below_alloc | apply pw_below_drewN | apply below_drew1 | refine below_set ?_ GE993.out) | exact HB.out)) hb); have n2_ := Aside0.mk (hbox); have n3_ := Aside0.mk ((by rw [hg]; exact (below_size (by repeat (first | (with_reducible first | exact HB.out | apply below_alloc | apply pw_below_drewN | apply below_drew1 | refine below_set ?_ GE993.out) | exact HB.out))) : w.heap.size ≤ gb994)); have n4_ := Aside0.mk ((by rw [hg]; exact (below_size (by repeat (first | (with_reducible first | exact HB.out | apply below_alloc | apply pw_below_drewN | apply below_drew1 | refine below_set ?_ GE993.out) | exact HB.out))) : w.heap.size ≤ gb994)); have n5_ := Aside0.mk ((by rw [hg]; exact Nat.ne_of_lt (blk_lt (g := gb993) (o := .cells #[.int .i64 a0_0, .int .i64 a0_1, .int .i64 a0_2, .int .i64 a0_3, .slice A0_4 l0_4.length c0_4] 73 (0, 0)) (by (with_reducible repeat (first | refine blk_drewN ?_ _ | refine blk_drew ?_ | refine blk_alloc ?_ _)); exact BK993.out)) : gb993 ≠ gb994)); have n6_ := Aside0.mk ((by rw [hg]; exact Nat.ne_of_gt (blk_lt (g := gb993) (o := .cells #[.int .i64 a0_0, .int .i64 a0_1, .int .i64 a0_2, .int .i64 a0_3, .slice A0_4 l0_4.length c0_4] 73 (0, 0)) (by (with_reducible repeat (first | refine blk_drewN ?_ _ | refine blk_drew ?_ | refine blk_alloc ?_ _)); exact BK993.out)) : gb994 ≠ gb993)); clear BK993; clear HB; have BK993 := n0_; have HB := n1_; have BK994 := n2_; have GW994 := n3_; have GE994 := n4_; have NB993_994 := n5_; have NB994_993 := n6_; clear n0_ n1_ n2_ n3_ n4_ n5_ n6_; clear hb hbox hg; have hnb26 := NB993_994.out; have hnc26 := NB994_993.out; have hcz27_0 : w25.cell? ⟨gb993, 0, none⟩ = some (.int .i64 a0_0) := (blk_cell BK993.out 0).trans rfl; have hcz27_1 : w25.cell? ⟨gb993, 1, none⟩ = some (.int .i64 a0_1) := (blk_cell BK993.out 1).trans rfl; have hcz27_2 : w25.cell? ⟨gb993, 2, none⟩ = some (.int .i64 a0_2) := (blk_cell BK993.out 2).trans rfl; have hcz27_3 : w25.cell? ⟨gb993, 3, none⟩ = some (.int .i64 a0_3) := (blk_cell BK993.out 3).trans rfl; have hcz27_4 : w25.cell? ⟨gb993, 4, none⟩ = some (.slice A0_4 l0_4.length c0_4) := (blk_cell BK993.out 4).trans rfl; have hfz27_0 := blk_frozen BK993.out 0; have hfz27_1 := blk_frozen BK993.out 1; have hfz27_2 := blk_frozen BK993.out 2; have hfz27_3 := blk_frozen BK993.out 3; have hfz27_4 := blk_frozen BK993.out 4; have hcz28_0 : w25.cell? ⟨gb994, 0, none⟩ = some (.int .i64 a1_0) := (blk_cell BK994.out 0).trans rfl; have hcz28_1 : w25.cell? ⟨gb994, 1, none⟩ = some (.int .i64 a1_1) := (blk_cell BK994.out 1).trans rfl; have hcz28_2 : w25.cell? ⟨gb994, 2, none⟩ = some (.int .i64 a1_2) := (blk_cell BK994.out 2).trans rfl; have hcz28_3 : w25.cell? ⟨gb994, 3, none⟩ = some (.int .i64 a1_3) := (blk_cell BK994.out 3).trans rfl; have hcz28_4 : w25.cell? ⟨gb994, 4, none⟩ = some (.slice A1_4 l1_4.length c1_4) := (blk_cell BK994.out 4).trans rfl; have hfz28_0 := blk_frozen BK994.out 0; have hfz28_1 := blk_frozen BK994.out 1; have hfz28_2 := blk_frozen BK994.out 2; have hfz28_3 := blk_frozen BK994.out 3; have hfz28_4 := blk_frozen BK994.out 4) | ((with_reducible refine gate_callee (f := 95) rfl ?_); refine goesL_ (some 14) rfl rfl Try.func95 (by kernel_rfl) rfl #[.agg #[.int .i64 a0_1, .int .i64 a0_2, .int .i64 a0_3], .agg #[.int .i64 a1_1, .int .i64 a1_2, .int .i64 a1_3]] rfl (by (try simp only [List.map_toArray, List.map_cons, List.map_nil]); first | done | rfl | (simp only [List.length_drop, List.length_take]; rfl)) ?_; (with_reducible refine (laws_eqLattice.calls a0_1 a0_2 a0_3 a1_1 a1_2 a1_3 false _ A4.out).mono ?_); rintro e w29 ⟨rfl, hb⟩; refine ⟨_, rfl, ?_⟩; have n0_ := Aside0.mk (blk_below (g := gb993) (o := .cells #[.int .i64 a0_0, .int .i64 a0_1, .int .i64 a0_2, .int .i64 a0_3, .slice A0_4 l0_4.length c0_4] 73 (0, 0)) (by (with_reducible repeat (first | refine blk_drewN ?_ _ | refine blk_drew ?_ | refine blk_alloc ?_ _)); exact BK993.out) hb); have n1_ := Aside0.mk (blk_below (g := gb994) (o := .cells #[.int .i64 a1_0, .int .i64 a1_1, .int .i64 a1_2, .int .i64 a1_3, .slice A1_4 l1_4.length c1_4] 73 (0, 0)) (by (with_reducible repeat (first | refine blk_drewN ?_ _ | refine blk_drew ?_ | refine blk_alloc ?_ _)); exact BK994.out) hb); have n2_ := Aside0.mk (below_step (by repeat (first | (with_reducible first | exact HB.out | apply below_alloc | apply pw_below_drewN | apply below_drew1 | refine below_set ?_ GE993.out | refine below_set ?_ GE994.out) | exact HB.out)) hb); clear BK993; clear BK994; clear HB; have BK993 := n0_; have BK994 := n1_; have HB := n2_; clear n0_ n1_ n2_; (try clear hb); (try clear hb2); (try clear hk); (try clear hi)))
   go_ret
   exact ⟨by first | rfl | (simp [errW_none, errW_some] <;> rfl) | (simp [*, errW_none, errW_some] <;> rfl), by repeat (first | (with_reducible first | exact HB.out | apply below_alloc | apply pw_below_drewN | apply below_drew1 | refine below_set ?_ GE993.out | refine below_set ?_ GE994.out) | exact HB.out)⟩
 ·
  rw [if_neg c3] at H
  have c3b0 : (a0_0 == a1_0) = false := beq_eq_false_iff_ne.mpr c3
  have c3b1 : (a0_0 != a1_0) = true := bne_iff_ne.mpr c3
  obtain rfl := Option.some.inj H
  go_enter Try.func53, Try.ntmps53
  go_wp2_with (first | ((with_reducible refine gate_dst (N := 2) rfl ?_); refine box_event ?hg (N := 2) ?hd (cs := #[.int .i64 a0_0, .int .i64 a0_1, .int .i64 a0_2, .int .i64 a0_3, .slice A0_4 l0_4.length c0_4]) (t := 73) ?hr ?_; (case hd => rfl); (case hg => rfl); (case hr => first | (go_simp; done) | (go_simp; rfl)); intro gb993 hg w30 hbox hb; have n0_ := Aside0.mk (below_step (by repeat (first | (with_reducible first | exact HB.out | apply below_alloc | apply pw_below_drewN | apply below_drew1) | exact HB.out)) hb); have n1_ := Aside0.mk (hbox); have n2_ := Aside0.mk ((by rw [hg]; exact (below_size (by repeat (first | (with_reducible first | exact HB.out | apply below_alloc | apply pw_below_drewN | apply below_drew1) | exact HB.out))) : w.heap.size ≤ gb993)); have n3_ := Aside0.mk ((by rw [hg]; exact (below_size (by repeat (first | (with_reducible first | exact HB.out | apply below_alloc | apply pw_below_drewN | apply below_drew1) | exact HB.out))) : w.heap.size ≤ gb993)); clear HB; have HB := n0_; have BK993 := n1_; have GW993 := n2_; have GE993 := n3_; clear n0_ n1_ n2_ n3_; clear hb hbox hg) | ((with_reducible refine gate_dst (N := 3) rfl ?_); refine box_event ?hg (N := 3) ?hd (cs := #[.int .i64 a1_0, .int .i64 a1_1, .int .i64 a1_2, .int .i64 a1_3, .slice A1_4 l1_4.length c1_4]) (t := 73) ?hr ?_; (case hd => rfl); (case hg => rfl); (case hr => first | (go_simp; done) | (go_simp; rfl)); intro gb994 hg w31 hbox hb; have n0_ := Aside0.mk (blk_below (g := gb993) (o := .cells #[.int .i64 a0_0, .int .i64 a0_1, .int .i64 a0_2, .int .i64 a0_3, .slice A0_4 l0_4.length c0_4] 73 (0, 0)) (by (with_reducible repeat (first | refine blk_drewN ?_ _ | refine blk_drew ?_ | refine blk_alloc ?_ _)); exact BK993.out) hb); have n1_ := Aside0.mk (below_step (by repeat (first | (with_reducible first | exact HB.out | apply below_alloc | apply pw_below_drewN | apply below_drew1 | refine below_set ?_ GE993.out) | exact HB.out)) hb); have n2_ := Aside0.mk (hbox); have n3_ := Aside0.mk ((by rw [hg]; exact (below_size (by repeat (first | (with_reducible first | exact HB.out | apply below_alloc | apply pw_below_drewN | apply below_drew1 | refine below_set ?_ GE993.out) | exact HB.out))) : w.heap.size ≤ gb994)); have n4_ := Aside0.mk ((by rw [hg]; exact (below_size (by repeat (first | (with_reducible first | exact HB.out | apply below_alloc | apply pw_below_drewN | apply below_drew1 | refine below_set ?_ GE993.out) | exact HB.out))) : w.heap.size ≤ gb994)); have n5_ := Aside0.mk ((by rw [hg]; exact Nat.ne_of_lt (blk_lt (g := gb993) (o := .cells #[.int .i64 a0_0, .int .i64 a0_1, .int .i64 a0_2, .int .i64 a0_3, .slice A0_4 l0_4.length c0_4] 73 (0, 0)) (by (with_reducible repeat (first | refine blk_drewN ?_ _ | refine blk_drew ?_ | refine blk_alloc ?_ _)); exact BK993.out)) : gb993 ≠ gb994)); have n6_ := Aside0.mk ((by rw [hg]; exact Nat.ne_of_gt (blk_lt (g := gb993) (o := .cells #[.int .i64 a0_0, .int .i64 a0_1, .int .i64 a0_2, .int .i64 a0_3, .slice A0_4 l0_4.length c0_4] 73 (0, 0)) (by (with_reducible repeat (first | refine blk_drewN ?_ _ | refine blk_drew ?_ | refine blk_alloc ?_ _)); exact BK993.out)) : gb994 ≠ gb993)); clear BK993; clear HB; have BK993 := n0_; have HB := n1_; have BK994 := n2_; have GW994 := n3_; have GE994 := n4_; have NB993_994 := n5_; have NB994_993 := n6_; clear n0_ n1_ n2_ n3_ n4_ n5_ n6_; clear hb hbox hg; have hnb32 := NB993_994.out; have hnc32 := NB994_993.out; have hcz33_0 : w31.cell? ⟨gb993, 0, none⟩ = some (.int .i64 a0_0) := (blk_cell BK993.out 0).trans rfl; have hcz33_1 : w31.cell? ⟨gb993, 1, none⟩ = some (.int .i64 a0_1) := (blk_cell BK993.out 1).trans rfl; have hcz33_2 : w31.cell? ⟨gb993, 2, none⟩ = some (.int .i64 a0_2) := (blk_cell BK993.out 2).trans rfl; have hcz33_3 : w31.cell? ⟨gb993, 3, none⟩ = some (.int .i64 a0_3) := (blk_cell BK993.out 3).trans rfl; have hcz33_4 : w31.cell? ⟨gb993, 4, none⟩ = some (.slice A0_4 l0_4.length c0_4) := (blk_cell BK993.out 4).trans rfl; have hfz33_0 := blk_frozen BK993.out 0; have hfz33_1 := blk_frozen BK993.out 1; have hfz33_2 := blk_frozen BK993.out 2; have hfz33_3 := blk_frozen BK993.out 3; have hfz33_4 := blk_frozen BK993.out 4; have hcz34_0 : w31.cell? ⟨gb994, 0, none⟩ = some (.int .i64 a1_0) := (blk_cell BK994.out 0).trans rfl; have hcz34_1 : w31.cell? ⟨gb994, 1, none⟩ = some (.int .i64 a1_1) := (blk_cell BK994.out 1).trans rfl; have hcz34_2 : w31.cell? ⟨gb994, 2, none⟩ = some (.int .i64 a1_2) := (blk_cell BK994.out 2).trans rfl; have hcz34_3 : w31.cell? ⟨gb994, 3, none⟩ = some (.int .i64 a1_3) := (blk_cell BK994.out 3).trans rfl; have hcz34_4 : w31.cell? ⟨gb994, 4, none⟩ = some (.slice A1_4 l1_4.length c1_4) := (blk_cell BK994.out 4).trans rfl; have hfz34_0 := blk_frozen BK994.out 0; have hfz34_1 := blk_frozen BK994.out 1; have hfz34_2 := blk_frozen BK994.out 2; have hfz34_3 := blk_frozen BK994.out 3; have hfz34_4 := blk_frozen BK994.out 4))
  go_ret
  exact ⟨by first | rfl | (simp [errW_none, errW_some] <;> rfl) | (simp [*, errW_none, errW_some] <;> rfl), by repeat (first | (with_reducible first | exact HB.out | apply below_alloc | apply pw_below_drewN | apply below_drew1 | refine below_set ?_ GE993.out | refine below_set ?_ GE994.out) | exact HB.out)⟩

end Go.Proofs.Ytjjockhekaccnaa.X
namespace Go.Proofs.Ytjjockhekaccnaa.X
open Go.RowKit Go.Proofs.YtjjockhekaccnaaW.PrintWords Go.Proofs.YtjjockhekaccnaaW.PrintLast Go.Proofs.YtjjockhekaccnaaW.PrintMore
attribute [local go_sem] max2_int min2_int max_two min_two max_three min_three max_four min_four   -- for this text's walks alone
set_option linter.unusedVariables false
set_option linter.unusedSimpArgs false

/-! ### laws_FnExactInkShare: function 12 -/
set_option maxHeartbeats 8000000 in
set_option maxRecDepth 100000 in
theorem laws_FnExactInkShare.calls (k : Nat) (a0_0 : Int) (a0_1 : Int) (a0_2 : Int) (a0_3 : Int) (A0_4 : Option Addr) (c0_4 : Nat) (l0_4 : List Int) (a1 : Int) (r : Bool) (w : World) (hr0_4 : Kd.C (Kd.int .i64) w A0_4 l0_4.length l0_4) (hc0_4 : l0_4.length ≤ c0_4) (h : laws_FnExactInkShare.f k a0_0 a0_1 a0_2 a0_3 l0_4 a1 = some r) :
  Calls Try.prog 12 #[.agg #[.int .i64 a0_0, .int .i64 a0_1, .int .i64 a0_2, .int .i64 a0_3, .slice A0_4 l0_4.length c0_4], .int .i64 a1] w fun e w' => e = .returned (.bool r) ∧ Below w.heap.size w w' := by
 have hu68 := Try.underlying68
 have hu73 := Try.underlying73
 have HR0_4 := Aside0.mk hr0_4
 have HC0_4 := Aside0.mk hc0_4
 clear hr0_4 hc0_4
 have HB := Aside0.mk (Below.refl w.heap.size w)
 have H : ((laws_szPattern.f a0_0 a0_1 a0_2 a0_3 l0_4 1048576).bind fun t998 => (if t998 < 0 then (some true) else ((laws_toPattern.f k a0_0 a0_1 a0_2 a0_3 l0_4).bind fun bt999 => ((spec_InkShare.f k bt999.1 bt999.2.1 bt999.2.2.1 bt999.2.2.2.1 bt999.2.2.2.2 a1).bind fun bt1006 => ((laws_toPattern.f k a0_0 a0_1 a0_2 a0_3 l0_4).bind fun bt1008 => ((impl_InkShare.f k bt1008.1 bt1008.2.1 bt1008.2.2.1 bt1008.2.2.2.1 bt1008.2.2.2.2 a1).bind fun bt1016 => (if bt1016.1 = bt1006.1 then (if bt1016.2 = bt1006.2 then ((laws_toPattern.f k a0_0 a0_1 a0_2 a0_3 l0_4).bind fun bt1018 => ((laws_eqPattern.f k bt1008.1 bt1008.2.1 bt1008.2.2.1 bt1008.2.2.2.1 bt1008.2.2.2.2 bt1018.1 bt1018.2.1 bt1018.2.2.1 bt1018.2.2.2.1 bt1018.2.2.2.2).bind fun t1025 => (if t1025 = true then (some true) else (none)))) else (none)) else (none)))))))) = some r := h
 clear h
 replace H := Option.bind_eq_some_iff.mp H
 obtain ⟨t998, A30, H⟩ := H
 replace H : (if t998 < 0 then (some true) else ((laws_toPattern.f k a0_0 a0_1 a0_2 a0_3 l0_4).bind fun bt999 => ((spec_InkShare.f k bt999.1 bt999.2.1 bt999.2.2.1 bt999.2.2.2.1 bt999.2.2.2.2 a1).bind fun bt1006 => ((laws_toPattern.f k a0_0 a0_1 a0_2 a0_3 l0_4).bind fun bt1008 => ((impl_InkShare.f k bt1008.1 bt1008.2.1 bt1008.2.2.1 bt1008.2.2.2.1 bt1008.2.2.2.2 a1).bind fun bt1016 => (if bt1016.1 = bt1006.1 then (if bt1016.2 = bt1006.2 then ((laws_toPattern.f k a0_0 a0_1 a0_2 a0_3 l0_4).bind fun bt1018 => ((laws_eqPattern.f k bt1008.1 bt1008.2.1 bt1008.2.2.1 bt1008.2.2.2.1 bt1008.2.2.2.2 bt1018.1 bt1018.2.1 bt1018.2.2.1 bt1018.2.2.2.1 bt1018.2.2.2.2).bind fun t1025 => (if t1025 = true then (some true) else (none)))) else (none)) else (none))))))) = some r := H
 have A3 := Aside0.mk A30
 clear A30
 by_cases c4 : t998 < 0
 ·
  rw [if_pos c4] at H
  have c4b0 : decide (t998 < 0) = true := decide_eq_true c4
  clear c4
  obtain rfl := Option.some.inj H
  go_enter Try.func12, Try.ntmps12
  go_wp2_with (first | ((with_reducible refine gate_dst (N := 2) rfl ?_); refine box_event ?hg (N := 2) ?hd (cs := #[.int .i64 a0_0, .int .i64 a0_1, .int .i64 a0_2, .int .i64 a0_3, .slice A0_4 l0_4.length c0_4]) (t := 68) ?hr ?_; (case hd => rfl); (case hg => rfl); (case hr => first | (go_simp; done) | (go_simp; rfl)); intro gb997 hg w5 hbox hb; have n0_ := Aside0.mk (below_step (by repeat (first | (with_reducible first | exact HB.out | apply below_alloc | apply pw_below_drewN | apply below_drew1) | exact HB.out)) hb); have n1_ := Aside0.mk (hbox); have n2_ := Aside0.mk ((by rw [hg]; exact (below_size (by repeat (first | (with_reducible first | exact HB.out | apply below_alloc | apply pw_below_drewN | apply below_drew1) | exact HB.out))) : w.heap.size ≤ gb997)); have n3_ := Aside0.mk ((by rw [hg]; exact (below_size (by repeat (first | (with_reducible first | exact HB.out | apply below_alloc | apply pw_below_drewN | apply below_drew1) | exact HB.out))) : w.heap.size ≤ gb997)); clear HB; have HB := n0_; have BK997 := n1_; have GW997 := n2_; have GE997 := n3_; clear n0_ n1_ n2_ n3_; clear hb hbox hg; have hcz6_0 : w5.cell? ⟨gb997, 0, none⟩ = some (.int .i64 a0_0) := (blk_cell BK997.out 0).trans rfl; have hcz6_1 : w5.cell? ⟨gb997, 1, none⟩ = some (.int .i64 a0_1) := (blk_cell BK997.out 1).trans rfl; have hcz6_2 : w5.cell? ⟨gb997, 2, none⟩ = some (.int .i64 a0_2) := (blk_cell BK997.out 2).trans rfl; have hcz6_3 : w5.cell? ⟨gb997, 3, none⟩ = some (.int .i64 a0_3) := (blk_cell BK997.out 3).trans rfl; have hcz6_4 : w5.cell? ⟨gb997, 4, none⟩ = some (.slice A0_4 l0_4.length c0_4) := (blk_cell BK997.out 4).trans rfl; have hfz6_0 := blk_frozen BK997.out 0; have hfz6_1 := blk_frozen BK997.out 1; have hfz6_2 := blk_frozen BK997.out 2; have hfz6_3 := blk_frozen BK997.out 3; have hfz6_4 := blk_frozen BK997.out 4) | ((with_reducible refine gate_callee (f := 49) rfl ?_); refine goesL_ (some 13) rfl rfl Try.func49 (by kernel_rfl) rfl #[.agg #[.int .i64 a0_0, .int .i64 a0_1, .int .i64 a0_2, .int .i64 a0_3, .slice A0_4 l0_4.length c0_4], .int .i64 1048576] rfl (by (try simp only [List.map_toArray, List.map_cons, List.map_nil]); first | done | rfl | (simp only [List.length_drop, List.length_take]; rfl)) ?_; (with_reducible refine (laws_szPattern.calls a0_0 a0_1 a0_2 a0_3 _ _ l0_4 1048576 t998 _ ?side1 ?side2 A3.out).mono ?_); (case side1 => repeat (first | exact (Kd.C_below HR0_4.out HB.out) | (with_reducible refine Kd.C_alloc ?_ _) | (with_reducible refine Kd.C_drewN ?_ _) | (with_reducible refine Kd.C_drew ?_))); (case side2 => exact HC0_4.out); rintro e w7 ⟨rfl, hb⟩; refine ⟨_, rfl, ?_⟩; have n0_ := Aside0.mk (blk_below (g := gb997) (o := .cells #[.int .i64 a0_0, .int .i64 a0_1, .int .i64 a0_2, .int .i64 a0_3, .slice A0_4 l0_4.length c0_4] 68 (0, 0)) (by (with_reducible repeat (first | refine blk_drewN ?_ _ | refine blk_drew ?_ | refine blk_alloc ?_ _)); exact BK997.out) hb); have n1_ := Aside0.mk (below_step (by repeat (first | (with_reducible first | exact HB.out | apply below_alloc | apply pw_below_drewN | apply below_drew1 | refine below_set ?_ GE997.out) | exact HB.out)) hb); clear BK997; clear HB; have BK997 := n0_; have HB := n1_; clear n0_ n1_; (try clear hb); (try clear hb2); (try clear hk); (try clear hi)))
  go_ret
  exact ⟨by first | rfl | (simp [errW_none, errW_some] <;> rfl) | (simp [*, errW_none, errW_some] <;> rfl), by repeat (first | (with_reducible first | exact HB.out | apply below_alloc | apply pw_below_drewN | apply below_drew1 | refine below_set ?_ GE997.out) | exact HB.out)⟩
 ·
  rw [if_neg c4] at H
  have c4b0 : decide (t998 < 0) = false := decide_eq_false c4
  clear c4
  replace H := Option.bind_eq_some_iff.mp H
  obtain ⟨⟨t999, t1000, t1001, t1002, t1003⟩, A80, H⟩ := H
  replace H : ((spec_InkShare.f k t999 t1000 t1001 t1002 t1003 a1).bind fun bt1006 => ((laws_toPattern.f k a0_0 a0_1 a0_2 a0_3 l0_4).bind fun bt1008 => ((impl_InkShare.f k bt1008.1 bt1008.2.1 bt1008.2.2.1 bt1008.2.2.2.1 bt1008.2.2.2.2 a1).bind fun bt1016 => (if bt1016.1 = bt1006.1 then (if bt1016.2 = bt1006.2 then ((laws_toPattern.f k a0_0 a0_1 a0_2 a0_3 l0_4).bind fun bt1018 => ((laws_eqPattern.f k bt1008.1 bt1008.2.1 bt1008.2.2.1 bt1008.2.2.2.1 bt1008.2.2.2.2 bt1018.1 bt1018.2.1 bt1018.2.2.1 bt1018.2.2.2.1 bt1018.2.2.2.2).bind fun t1025 => (if t1025 = true then (some true) else (none)))) else (none)) else (none))))) = some r := H
  have A8 := Aside0.mk A80
  clear A80
  replace H := Option.bind_eq_some_iff.mp H
  obtain ⟨⟨t1006, t1007⟩, A90, H⟩ := H
  replace H : ((laws_toPattern.f k a0_0 a0_1 a0_2 a0_3 l0_4).bind fun bt1008 => ((impl_InkShare.f k bt1008.1 bt1008.2.1 bt1008.2.2.1 bt1008.2.2.2.1 bt1008.2.2.2.2 a1).bind fun bt1016 => (if bt1016.1 = t1006 then (if bt1016.2 = t1007 then ((laws_toPattern.f k a0_0 a0_1 a0_2 a0_3 l0_4).bind fun bt1018 => ((laws_eqPattern.f k bt1008.1 bt1008.2.1 bt1008.2.2.1 bt1008.2.2.2.1 bt1008.2.2.2.2 bt1018.1 bt1018.2.1 bt1018.2.2.1 bt1018.2.2.2.1 bt1018.2.2.2.2).bind fun t1025 => (if t1025 = true then (some true) else (none)))) else (none)) else (none)))) = some r := H
  have A9 := Aside0.mk A90
  clear A90
  replace H := Option.bind_eq_some_iff.mp H
  obtain ⟨⟨t1008, t1009, t1010, t1011, t1012⟩, A100, H⟩ := H
  replace H : ((impl_InkShare.f k t1008 t1009 t1010 t1011 t1012 a1).bind fun bt1016 => (if bt1016.1 = t1006 then (if bt1016.2 = t1007 then ((laws_toPattern.f k a0_0 a0_1 a0_2 a0_3 l0_4).bind fun bt1018 => ((laws_eqPattern.f k t1008 t1009 t1010 t1011 t1012 bt1018.1 bt1018.2.1 bt1018.2.2.1 bt1018.2.2.2.1 bt1018.2.2.2.2).bind fun t1025 => (if t1025 = true then (some true) else (none)))) else (none)) else (none))) = some r := H
  have A10 := Aside0.mk A100
  clear A100
  replace H := Option.bind_eq_some_iff.mp H
  obtain ⟨⟨t1016, t1017⟩, A110, H⟩ := H
  replace H : (if t1016 = t1006 then (if t1017 = t1007 then ((laws_toPattern.f k a0_0 a0_1 a0_2 a0_3 l0_4).bind fun bt1018 => ((laws_eqPattern.f k t1008 t1009 t1010 t1011 t1012 bt1018.1 bt1018.2.1 bt1018.2.2.1 bt1018.2.2.2.1 bt1018.2.2.2.2).bind fun t1025 => (if t1025 = true then (some true) else (none)))) else (none)) else (none)) = some r := H
  have A11 := Aside0.mk A110
  clear A110
  by_cases c12 : t1016 = t1006
  ·
   rw [if_pos c12] at H
   have c12b0 : (t1016 == t1006) = true := beq_iff_eq.mpr c12
   have c12b1 : (t1016 != t1006) = false := bne_eq_false_iff_eq.mpr c12
   clear c12
   by_cases c13 : t1017 = t1007
   ·
    rw [if_pos c13] at H
    have c13b0 : (t1017 == t1007) = true := beq_iff_eq.mpr c13
    have c13b1 : (t1017 != t1007) = false := bne_eq_false_iff_eq.mpr c13
    clear c13
    replace H := Option.bind_eq_some_iff.mp H
    obtain ⟨⟨t1018, t1019, t1020, t1021, t1022⟩, A140, H⟩ := H
    replace H : ((laws_eqPattern.f k t1008 t1009 t1010 t1011 t1012 t1018 t1019 t1020 t1021 t1022).bind fun t1025 => (if t1025 = true then (some true) else (none))) = some r := H
    have A14 := Aside0.mk A140
    clear A140
    replace H := Option.bind_eq_some_iff.mp H
    obtain ⟨t1025, A150, H⟩ := H
    replace H : (if t1025 = true then (some true) else (none)) = some r := H
    have A15 := Aside0.mk A150
    clear A150
    by_cases c16 : t1025 = true
    ·
     subst c16
     have H1 : (some true) = some r := by rw [if_pos rfl] at H; exact H
     clear H
     have H := H1
     clear H1
     obtain rfl := Option.some.inj H
     go_enter Try.func12, Try.ntmps12
     try go_wp2_with (first | ((with_reducible refine gate_dst (N := 2) rfl ?_); refine box_event ?hg (N := 2) ?hd (cs := #[.int .i64 a0_0, .int .i64 a0_1, .int .i64 a0_2, .int .i64 a0_3, .slice A0_4 l0_4.length c0_4]) (t := 68) ?hr ?_; (case hd => rfl); (case hg => rfl); (case hr => first | (go_simp; done) | (go_simp; rfl)); intro gb997 hg w17 hbox hb; have n0_ := Aside0.mk (below_step (by repeat (first | (with_reducible first | exact HB.out | apply below_alloc | apply pw_below_drewN | apply below_drew1) | exact HB.out)) hb); have n1_ := Aside0.mk (hbox); have n2_ := Aside0.mk ((by rw [hg]; exact (below_size (by repeat (first | (with_reducible first | exact HB.out | apply below_alloc | apply pw_below_drewN | apply below_drew1) | exact HB.out))) : w.heap.size ≤ gb997)); have n3_ := Aside0.mk ((by rw [hg]; exact (below_size (by repeat (first | (with_reducible first | exact HB.out | apply below_alloc | apply pw_below_drewN | apply below_drew1) | exact HB.out))) : w.heap.size ≤ gb997)); clear HB; have HB := n0_; have BK997 := n1_; have GW997 := n2_; have GE997 := n3_; clear n0_ n1_ n2_ n3_; clear hb hbox hg; have hcz18_0 : w17.cell? ⟨gb997, 0, none⟩ = some (.int .i64 a0_0) := (blk_cell BK997.out 0).trans rfl; have hcz18_1 : w17.cell? ⟨gb997, 1, none⟩ = some (.int .i64 a0_1) := (blk_cell BK997.out 1).trans rfl; have hcz18_2 : w17.cell? ⟨gb997, 2, none⟩ = some (.int .i64 a0_2) := (blk_cell BK997.out 2).trans rfl; have hcz18_3 : w17.cell? ⟨gb997, 3, none⟩ = some (.int .i64 a0_3) := (blk_cell BK997.out 3).trans rfl; have hcz18_4 : w17.cell? ⟨gb997, 4, none⟩ = some (.slice A0_4 l0_4.length c0_4) := (blk_cell BK997.out 4).trans rfl; have hfz18_0 := blk_frozen BK997.out 0; have hfz18_1 := blk_frozen BK997.out 1; have hfz18_2 := blk_frozen BK997.out 2; have hfz18_3 := blk_frozen BK997.out 3; have hfz18_4 := blk_frozen BK997.out 4) | ((with_reducible refine gate_callee (f := 49) rfl ?_); refine goesL_ (some 13) rfl rfl Try.func49 (by kernel_rfl) rfl #[.agg #[.int .i64 a0_0, .int .i64 a0_1, .int .i64 a0_2, .int .i64 a0_3, .slice A0_4 l0_4.length c0_4], .int .i64 1048576] rfl (by (try simp only [List.map_toArray, List.map_cons, List.map_nil]); first | done | rfl | (simp only [List.length_drop, List.length_take]; rfl)) ?_; (with_reducible refine (laws_szPattern.calls a0_0 a0_1 a0_2 a0_3 _ _ l0_4 1048576 t998 _ ?side1 ?side2 A3.out).mono ?_); (case side1 => repeat (first | exact (Kd.C_below HR0_4.out HB.out) | (with_reducible refine Kd.C_alloc ?_ _) | (with_reducible refine Kd.C_drewN ?_ _) | (with_reducible refine Kd.C_drew ?_))); (case side2 => exact HC0_4.out); rintro e w19 ⟨rfl, hb⟩; refine ⟨_, rfl, ?_⟩; have n0_ := Aside0.mk (blk_below (g := gb997) (o := .cells #[.int .i64 a0_0, .int .i64 a0_1, .int .i64 a0_2, .int .i64 a0_3, .slice A0_4 l0_4.length c0_4] 68 (0, 0)) (by (with_reducible repeat (first | refine blk_drewN ?_ _ | refine blk_drew ?_ | refine blk_alloc ?_ _)); exact BK997.out) hb); have n1_ := Aside0.mk (below_step (by repeat (first | (with_reducible first | exact HB.out | apply below_alloc | apply pw_below_drewN | apply below_drew1 | refine below_set ?_ GE997.out) | exact HB.out)) hb); clear BK997; clear HB; have BK997 := n0_; have HB := n1_; clear n0_ n1_; (try clear hb); (try clear hb2); (try clear hk); (try clear hi); have hcz20_0 : w19.cell? ⟨gb997, 0, none⟩ = some (.int .i64 a0_0) := (blk_cell BK997.out 0).trans rfl; have hcz20_1 : w19.cell? ⟨gb997, 1, none⟩ = some (.int .i64 a0_1) := (blk_cell BK997.out 1).trans rfl; have hcz20_2 : w19.cell? ⟨gb997, 2, none⟩ = some (.int .i64 a0_2) := (blk_cell BK997.out 2).trans rfl; have hcz20_3 : w19.cell? ⟨gb997, 3, none⟩ = some (.int .i64 a0_3) := (blk_cell BK997.out 3).trans rfl; have hcz20_4 : w19.cell? ⟨gb997, 4, none⟩ = some (.slice A0_4 l0_4.length c0_4) := (blk_cell BK997.out 4).trans rfl; have hfz20_0 := blk_frozen BK997.out 0; have hfz20_1 := blk_frozen BK997.out 1; have hfz20_2 := blk_frozen BK997.out 2; have hfz20_3 := blk_frozen BK997.out 3; have hfz20_4 := blk_frozen BK997.out 4) | ((with_reducible refine gate_callee (f := 51) rfl ?_); refine goesL_ (some 18) rfl rfl Try.func51 (by kernel_rfl) rfl #[.agg #[.int .i64 a0_0, .int .i64 a0_1, .int .i64 a0_2, .int .i64 a0_3, .slice A0_4 l0_4.length c0_4]] rfl (by (try simp only [List.map_toArray, List.map_cons, List.map_nil]); first | done | rfl | (simp only [List.length_drop, List.length_take]; rfl)) ?_; (with_reducible refine (laws_toPattern.calls k a0_0 a0_1 a0_2 a0_3 _ _ l0_4 t999 t1000 t1001 t1002 t1003 _ ?side1 ?side2 A8.out).mono ?_); (case side1 => repeat (first | exact (Kd.C_below HR0_4.out HB.out) | (with_reducible refine Kd.C_alloc ?_ _) | (with_reducible refine Kd.C_drewN ?_ _) | (with_reducible refine Kd.C_drew ?_))); (case side2 => exact HC0_4.out); rintro e w21 ⟨v1004, rfl, ho0, hb⟩; refine ⟨_, rfl, ?_⟩; have n0_ := Aside0.mk (Kd.R_lower ho0 (below_size (by repeat (first | (with_reducible first | exact HB.out | apply below_alloc | apply pw_below_drewN | apply below_drew1 | refine below_set ?_ GE997.out) | exact HB.out)))); have n1_ := Aside0.mk (blk_below (g := gb997) (o := .cells #[.int .i64 a0_0, .int .i64 a0_1, .int .i64 a0_2, .int .i64 a0_3, .slice A0_4 l0_4.length c0_4] 68 (0, 0)) (by (with_reducible repeat (first | refine blk_drewN ?_ _ | refine blk_drew ?_ | refine blk_alloc ?_ _)); exact BK997.out) hb); have n2_ := Aside0.mk (below_step (by repeat (first | (with_reducible first | exact HB.out | apply below_alloc | apply pw_below_drewN | apply below_drew1 | refine below_set ?_ GE997.out) | exact HB.out)) hb); clear BK997; clear HB; have HO1005 := n0_; have BK997 := n1_; have HB := n2_; clear n0_ n1_ n2_; (try clear hb); (try clear hb2); (try clear hk); (try clear hi); (try clear ho0); obtain ⟨Ao22, co22, eo22⟩ := Kd.R_slice HO1005.out; subst eo22) | ((with_reducible refine gate_callee (f := 50) rfl ?_); refine goesL_ (some 20) rfl rfl Try.func50 (by kernel_rfl) rfl #[.agg #[.int .i64 t999, .int .i64 t1000, .int .i64 t1001, .int .i64 t1002, .slice Ao22 t1003.length co22], .int .i64 a1] rfl (by (try simp only [List.map_toArray, List.map_cons, List.map_nil]); first | done | rfl | (simp only [List.length_drop, List.length_take]; rfl)) ?_; (with_reducible refine (spec_InkShare.calls k t999 t1000 t1001 t1002 _ _ t1003 a1 t1006 t1007 _ ?side1 ?side2 A9.out).mono ?_); (case side1 => repeat (first | exact (Kd.R_reads' HO1005.out).2.2 | (with_reducible refine Kd.C_alloc ?_ _) | (with_reducible refine Kd.C_drewN ?_ _) | (with_reducible refine Kd.C_drew ?_))); (case side2 => exact (Kd.R_reads' HO1005.out).2.1); rintro e w23 ⟨rfl, hb⟩; refine ⟨_, rfl, ?_⟩; have n0_ := Aside0.mk (Kd.R_below (by (with_reducible repeat (first | apply Kd.R_alloc | apply Kd.R_drewN | apply Kd.R_drew)); exact HO1005.out) hb); have n1_ := Aside0.mk (blk_below (g := gb997) (o := .cells #[.int .i64 a0_0, .int .i64 a0_1, .int .i64 a0_2, .int .i64 a0_3, .slice A0_4 l0_4.length c0_4] 68 (0, 0)) (by (with_reducible repeat (first | refine blk_drewN ?_ _ | refine blk_drew ?_ | refine blk_alloc ?_ _)); exact BK997.out) hb); have n2_ := Aside0.mk (below_step (by repeat (first | (with_reducible first | exact HB.out | apply below_alloc | apply pw_below_drewN | apply below_drew1 | refine below_set ?_ GE997.out) | exact HB.out)) hb); clear HO1005; clear BK997; clear HB; have HO1005 := n0_; have BK997 := n1_; have HB := n2_; clear n0_ n1_ n2_; (try clear hb); (try clear hb2); (try clear hk); (try clear hi); have hcz24_0 : w23.cell? ⟨gb997, 0, none⟩ = some (.int .i64 a0_0) := (blk_cell BK997.out 0).trans rfl; have hcz24_1 : w23.cell? ⟨gb997, 1, none⟩ = some (.int .i64 a0_1) := (blk_cell BK997.out 1).trans rfl; have hcz24_2 : w23.cell? ⟨gb997, 2, none⟩ = some (.int .i64 a0_2) := (blk_cell BK997.out 2).trans rfl; have hcz24_3 : w23.cell? ⟨gb997, 3, none⟩ = some (.int .i64 a0_3) := (blk_cell BK997.out 3).trans rfl; have hcz24_4 : w23.cell? ⟨gb997, 4, none⟩ = some (.slice A0_4 l0_4.length c0_4) := (blk_cell BK997.out 4).trans rfl; have hfz24_0 := blk_frozen BK997.out 0; have hfz24_1 := blk_frozen BK997.out 1; have hfz24_2 := blk_frozen BK997.out 2; have hfz24_3 := blk_frozen BK997.out 3; have hfz24_4 := blk_frozen BK997.out 4) | ((with_reducible refine gate_callee (f := 51) rfl ?_); refine goesL_ (some 24) rfl rfl Try.func51 (by kernel_rfl) rfl #[.agg #[.int .i64 a0_0, .int .i64 a0_1, .int .i64 a0_2, .int .i64 a0_3, .slice A0_4 l0_4.length c0_4]] rfl (by (try simp only [List.map_toArray, List.map_cons, List.map_nil]); first | done | rfl | (simp only [List.length_drop, List.length_take]; rfl)) ?_; (with_reducible refine (laws_toPattern.calls k a0_0 a0_1 a0_2 a0_3 _ _ l0_4 t1008 t1009 t1010 t1011 t1012 _ ?side1 ?side2 A10.out).mono ?_); (case side1 => repeat (first | exact (Kd.C_below HR0_4.out HB.out) | (with_reducible refine Kd.C_alloc ?_ _) | (with_reducible refine Kd.C_drewN ?_ _) | (with_reducible refine Kd.C_drew ?_))); (case side2 => exact HC0_4.out); rintro e w25 ⟨v1013, rfl, ho0, hb⟩; refine ⟨_, rfl, ?_⟩; have n0_ := Aside0.mk (Kd.R_elder' (by (with_reducible repeat (first | apply Kd.R_alloc | apply Kd.R_drewN | apply Kd.R_drew)); exact HO1005.out) (Kd.R_base ho0) hb); have n1_ := Aside0.mk (Kd.R_lower (Kd.R_new' ho0 (Kd.R_lt (by (with_reducible repeat (first | apply Kd.R_alloc | apply Kd.R_drewN | apply Kd.R_drew)); exact HO1005.out))) (below_size (by repeat (first | (with_reducible first | exact HB.out | apply below_alloc | apply pw_below_drewN | apply below_drew1 | refine below_set ?_ GE997.out) | exact HB.out)))); have n2_ := Aside0.mk (blk_below (g := gb997) (o := .cells #[.int .i64 a0_0, .int .i64 a0_1, .int .i64 a0_2, .int .i64 a0_3, .slice A0_4 l0_4.length c0_4] 68 (0, 0)) (by (with_reducible repeat (first | refine blk_drewN ?_ _ | refine blk_drew ?_ | refine blk_alloc ?_ _)); exact BK997.out) hb); have n3_ := Aside0.mk (below_step (by repeat (first | (with_reducible first | exact HB.out | apply below_alloc | apply pw_below_drewN | apply below_drew1 | refine below_set ?_ GE997.out) | exact HB.out)) hb); clear HO1005; clear BK997; clear HB; have HO1005 := n0_; have HO1014 := n1_; have BK997 := n2_; have HB := n3_; clear n0_ n1_ n2_ n3_; (try clear hb); (try clear hb2); (try clear hk); (try clear hi); (try clear ho0)) | ((with_reducible refine gate_dst (N := 8) rfl ?_); refine box_event ?hg (N := 8) ?hd (cs := #[.int .i64 0, .int .i64 0, .int .i64 0, .int .i64 0, .slice none 0 0]) (t := 73) ?hr ?_; (case hd => rfl); (case hg => rfl); (case hr => first | (go_simp; done) | (go_simp; rfl)); intro gb1015 hg w26 hbox hb; have n0_ := Aside0.mk (Kd.R_below (by (with_reducible repeat (first | apply Kd.R_alloc | apply Kd.R_drewN | apply Kd.R_drew)); exact HO1005.out) hb); have n1_ := Aside0.mk (Kd.R_below (by (with_reducible repeat (first | apply Kd.R_alloc | apply Kd.R_drewN | apply Kd.R_drew)); exact HO1014.out) hb); have n2_ := Aside0.mk (blk_below (g := gb997) (o := .cells #[.int .i64 a0_0, .int .i64 a0_1, .int .i64 a0_2, .int .i64 a0_3, .slice A0_4 l0_4.length c0_4] 68 (0, 0)) (by (with_reducible repeat (first | refine blk_drewN ?_ _ | refine blk_drew ?_ | refine blk_alloc ?_ _)); exact BK997.out) hb); have n3_ := Aside0.mk (below_step (by repeat (first | (with_reducible first | exact HB.out | apply below_alloc | apply pw_below_drewN | apply below_drew1 | refine below_set ?_ GE997.out) | exact HB.out)) hb); have n4_ := Aside0.mk (hbox); have n5_ := Aside0.mk ((by rw [hg]; exact (below_size (by repeat (first | (with_reducible first | exact HB.out | apply below_alloc | apply pw_below_drewN | apply below_drew1 | refine below_set ?_ GE997.out) | exact HB.out))) : w.heap.size ≤ gb1015)); have n6_ := Aside0.mk ((by rw [hg]; exact (below_size (by repeat (first | (with_reducible first | exact HB.out | apply below_alloc | apply pw_below_drewN | apply below_drew1 | refine below_set ?_ GE997.out) | exact HB.out))) : w.heap.size ≤ gb1015)); have n7_ := Aside0.mk ((by rw [hg]; exact Nat.ne_of_lt (blk_lt (g := gb997) (o := .cells #[.int .i64 a0_0, .int .i64 a0_1, .int .i64 a0_2, .int .i64 a0_3, .slice A0_4 l0_4.length c0_4] 68 (0, 0)) (by (with_reducible repeat (first | refine blk_drewN ?_ _ | refine blk_drew ?_ | refine blk_alloc ?_ _)); exact BK997.out)) : gb997 ≠ gb1015)); have n8_ := Aside0.mk ((by rw [hg]; exact Nat.ne_of_gt (blk_lt (g := gb997) (o := .cells #[.int .i64 a0_0, .int .i64 a0_1, .int .i64 a0_2, .int .i64 a0_3, .slice A0_4 l0_4.length c0_4] 68 (0, 0)) (by (with_reducible repeat (first | refine blk_drewN ?_ _ | refine blk_drew ?_ | refine blk_alloc ?_ _)); exact BK997.out)) : gb1015 ≠ gb997)); clear HO1005; clear HO1014; clear BK997; clear HB; have HO1005 := n0_; have HO1014 := n1_; have BK997 := n2_; have HB := n3_; have BK1015 := n4_; have GW1015 := n5_; have GE1015 := n6_; have NB997_1015 := n7_; have NB1015_997 := n8_; clear n0_ n1_ n2_ n3_ n4_ n5_ n6_ n7_ n8_; clear hb hbox hg; have hnb27 := NB1015_997.out; have hnc27 := NB997_1015.out; have hcz28_0 : w26.cell? ⟨gb1015, 0, none⟩ = some (.int .i64 0) := (blk_cell BK1015.out 0).trans rfl; have hcz28_1 : w26.cell? ⟨gb1015, 1, none⟩ = some (.int .i64 0) := (blk_cell BK1015.out 1).trans rfl; have hcz28_2 : w26.cell? ⟨gb1015, 2, none⟩ = some (.int .i64 0) := (blk_cell BK1015.out 2).trans rfl; have hcz28_3 : w26.cell? ⟨gb1015, 3, none⟩ = some (.int .i64 0) := (blk_cell BK1015.out 3).trans rfl; have hcz28_4 : w26.cell? ⟨gb1015, 4, none⟩ = some (.slice none 0 0) := (blk_cell BK1015.out 4).trans rfl; have hfz28_0 := blk_frozen BK1015.out 0; have hfz28_1 := blk_frozen BK1015.out 1; have hfz28_2 := blk_frozen BK1015.out 2; have hfz28_3 := blk_frozen BK1015.out 3; have hfz28_4 := blk_frozen BK1015.out 4; obtain ⟨Ao29, co29, eo29⟩ := Kd.R_slice HO1014.out; subst eo29) | ((with_reducible refine gate_callee (f := 52) rfl ?_); refine goesL_ (some 28) rfl rfl Try.func52 (by kernel_rfl) rfl #[.agg #[.int .i64 t1008, .int .i64 t1009, .int .i64 t1010, .int .i64 t1011, .slice Ao29 t1012.length co29], .int .i64 a1] rfl (by (try simp only [List.map_toArray, List.map_cons, List.map_nil]); first | done | rfl | (simp only [List.length_drop, List.length_take]; rfl)) ?_; (with_reducible refine (impl_InkShare.calls k t1008 t1009 t1010 t1011 _ _ t1012 a1 t1016 t1017 _ ?side1 ?side2 A11.out).mono ?_); (case side1 => refine (Kd.R_reads' (e := 2) (base := w.heap.size) (ok := fun k_ => (True ∧ some k_ ≠ (.slice Ao22 t1003.length co22 : Value).ownBlock)) (n := t1012.length) (c := co29) ?_).2.2; exact (by (with_reducible repeat (first | apply Kd.R_alloc | apply Kd.R_drewN | apply Kd.R_drew)); exact (Kd.R_mono (Kd.R_far (p := ⟨gb1015, 4, none⟩) (Kd.R_far (p := ⟨gb1015, 3, none⟩) (Kd.R_far (p := ⟨gb1015, 2, none⟩) (Kd.R_far (p := ⟨gb1015, 1, none⟩) (Kd.R_far (p := ⟨gb1015, 0, none⟩) (Kd.R_types HO1014.out BK1015.out (by decide)) (fun _ hk => hk.2) (.int .i64 t1008)) (fun _ hk => hk.2) (.int .i64 t1009)) (fun _ hk => hk.2) (.int .i64 t1010)) (fun _ hk => hk.2) (.int .i64 t1011)) (fun _ hk => hk.2) (.slice Ao29 t1012.length co29)) (fun _ h_ => h_.1)))); (case side2 => exact (Kd.R_reads' HO1014.out).2.1); rintro e w30 ⟨rfl, hb⟩; refine ⟨_, rfl, ?_⟩; have n0_ := Aside0.mk (Kd.R_below (by (with_reducible repeat (first | apply Kd.R_alloc | apply Kd.R_drewN | apply Kd.R_drew)); exact (Kd.R_mono (Kd.R_far (p := ⟨gb1015, 4, none⟩) (Kd.R_far (p := ⟨gb1015, 3, none⟩) (Kd.R_far (p := ⟨gb1015, 2, none⟩) (Kd.R_far (p := ⟨gb1015, 1, none⟩) (Kd.R_far (p := ⟨gb1015, 0, none⟩) (Kd.R_types HO1005.out BK1015.out (by decide)) (fun _ hk => hk.2) (.int .i64 t1008)) (fun _ hk => hk.2) (.int .i64 t1009)) (fun _ hk => hk.2) (.int .i64 t1010)) (fun _ hk => hk.2) (.int .i64 t1011)) (fun _ hk => hk.2) (.slice Ao29 t1012.length co29)) (fun _ h_ => h_.1))) hb); have n1_ := Aside0.mk (Kd.R_below (by (with_reducible repeat (first | apply Kd.R_alloc | apply Kd.R_drewN | apply Kd.R_drew)); exact (Kd.R_mono (Kd.R_far (p := ⟨gb1015, 4, none⟩) (Kd.R_far (p := ⟨gb1015, 3, none⟩) (Kd.R_far (p := ⟨gb1015, 2, none⟩) (Kd.R_far (p := ⟨gb1015, 1, none⟩) (Kd.R_far (p := ⟨gb1015, 0, none⟩) (Kd.R_types HO1014.out BK1015.out (by decide)) (fun _ hk => hk.2) (.int .i64 t1008)) (fun _ hk => hk.2) (.int .i64 t1009)) (fun _ hk => hk.2) (.int .i64 t1010)) (fun _ hk => hk.2) (.int .i64 t1011)) (fun _ hk => hk.2) (.slice Ao29 t1012.length co29)) (fun _ h_ => h_.1))) hb); have n2_ := Aside0.mk (blk_below (g := gb997) (o := .cells #[.int .i64 a0_0, .int .i64 a0_1, .int .i64 a0_2, .int .i64 a0_3, .slice A0_4 l0_4.length c0_4] 68 (0, 0)) (by (with_reducible repeat (first | refine blk_drewN ?_ _ | refine blk_drew ?_ | refine blk_alloc ?_ _)); refine blk_far ?_ NB997_1015.out _; (with_reducible repeat (first | refine blk_drewN ?_ _ | refine blk_drew ?_ | refine blk_alloc ?_ _)); refine blk_far ?_ NB997_1015.out _; (with_reducible repeat (first | refine blk_drewN ?_ _ | refine blk_drew ?_ | refine blk_alloc ?_ _)); refine blk_far ?_ NB997_1015.out _; (with_reducible repeat (first | refine blk_drewN ?_ _ | refine blk_drew ?_ | refine blk_alloc ?_ _)); refine blk_far ?_ NB997_1015.out _; (with_reducible repeat (first | refine blk_drewN ?_ _ | refine blk_drew ?_ | refine blk_alloc ?_ _)); refine blk_far ?_ NB997_1015.out _; (with_reducible repeat (first | refine blk_drewN ?_ _ | refine blk_drew ?_ | refine blk_alloc ?_ _)); exact BK997.out) hb); have n3_ := Aside0.mk (blk_below (g := gb1015) (o := .cells #[.int .i64 t1008, .int .i64 t1009, .int .i64 t1010, .int .i64 t1011, .slice Ao29 t1012.length co29] 73 (0, 0)) (by (with_reducible repeat (first | refine blk_drewN ?_ _ | refine blk_drew ?_ | refine blk_alloc ?_ _)); refine blk_put (cs := #[.int .i64 t1008, .int .i64 t1009, .int .i64 t1010, .int .i64 t1011, .slice none 0 0]) ?_ 4 _ rfl; (with_reducible repeat (first | refine blk_drewN ?_ _ | refine blk_drew ?_ | refine blk_alloc ?_ _)); refine blk_put (cs := #[.int .i64 t1008, .int .i64 t1009, .int .i64 t1010, .int .i64 0, .slice none 0 0]) ?_ 3 _ rfl; (with_reducible repeat (first | refine blk_drewN ?_ _ | refine blk_drew ?_ | refine blk_alloc ?_ _)); refine blk_put (cs := #[.int .i64 t1008, .int .i64 t1009, .int .i64 0, .int .i64 0, .slice none 0 0]) ?_ 2 _ rfl; (with_reducible repeat (first | refine blk_drewN ?_ _ | refine blk_drew ?_ | refine blk_alloc ?_ _)); refine blk_put (cs := #[.int .i64 t1008, .int .i64 0, .int .i64 0, .int .i64 0, .slice none 0 0]) ?_ 1 _ rfl; (with_reducible repeat (first | refine blk_drewN ?_ _ | refine blk_drew ?_ | refine blk_alloc ?_ _)); refine blk_put (cs := #[.int .i64 0, .int .i64 0, .int .i64 0, .int .i64 0, .slice none 0 0]) ?_ 0 _ rfl; (with_reducible repeat (first | refine blk_drewN ?_ _ | refine blk_drew ?_ | refine blk_alloc ?_ _)); exact BK1015.out) hb); have n4_ := Aside0.mk (below_step (by repeat (first | (with_reducible first | exact HB.out | apply below_alloc | apply pw_below_drewN | apply below_drew1 | refine below_set ?_ GE997.out | refine below_set ?_ GE1015.out) | exact HB.out)) hb); clear HO1005; clear HO1014; clear BK997; clear BK1015; clear HB; have HO1005 := n0_; have HO1014 := n1_; have BK997 := n2_; have BK1015 := n3_; have HB := n4_; clear n0_ n1_ n2_ n3_ n4_; (try clear hb); (try clear hb2); (try clear hk); (try clear hi)))
     have n0_ := Aside0.mk (Kd.R_drew HO1005.out)
     have n1_ := Aside0.mk (Kd.R_drew HO1014.out)
     have n2_ := Aside0.mk (blk_drew BK997.out)
     have n3_ := Aside0.mk (blk_drew BK1015.out)
     have n4_ := Aside0.mk (below_drew1 HB.out)
     clear HO1005
     clear HO1014
     clear BK997
     clear BK1015
     clear HB
     have HO1005 := n0_
     have HO1014 := n1_
     have BK997 := n2_
     have BK1015 := n3_
     have HB := n4_
     clear n0_ n1_ n2_ n3_ n4_
     refine start_ (n := 5) (S := fun w' => w'.cell? ⟨gb1015, 0, none⟩ = some (.int .i64 t1008) ∧ w'.cell? ⟨gb1015, 1, none⟩ = some (.int .i64 t1009) ∧ w'.cell? ⟨gb1015, 2, none⟩ = some (.int .i64 t1010) ∧ w'.cell? ⟨gb1015, 3, none⟩ = some (.int .i64 t1011) ∧ w'.cell? ⟨gb1015, 4, none⟩ = some (.slice Ao29 t1012.length co29) ∧ w'.cell? ⟨gb997, 0, none⟩ = some (.int .i64 a0_0) ∧ w'.cell? ⟨gb997, 1, none⟩ = some (.int .i64 a0_1) ∧ w'.cell? ⟨gb997, 2, none⟩ = some (.int .i64 a0_2) ∧ w'.cell? ⟨gb997, 3, none⟩ = some (.int .i64 a0_3) ∧ w'.cell? ⟨gb997, 4, none⟩ = some (.slice A0_4 l0_4.length c0_4)) (ds := []) #[false, false, false, false, false] (by kernel_rfl) rfl rfl ⟨(blk_cell BK1015.out 0).trans rfl, (blk_cell BK1015.out 1).trans rfl, (blk_cell BK1015.out 2).trans rfl, (blk_cell BK1015.out 3).trans rfl, (blk_cell BK1015.out 4).trans rfl, (blk_cell BK997.out 0).trans rfl, (blk_cell BK997.out 1).trans rfl, (blk_cell BK997.out 2).trans rfl, (blk_cell BK997.out 3).trans rfl, (blk_cell BK997.out 4).trans rfl⟩ (fun hHeld => ?_)
     generalize w30.drew = w31 at HO1005 HO1014 BK997 BK1015 HB hHeld ⊢
     refine take_ (i := 0) (N := some 39) (v := ?_) (a' := ?_) #[true, false, false, false, false] rfl rfl (by kernel_rfl) (fun _ _ _ h => h) (Or.inl ⟨by rfl, ?_⟩) hHeld ?_ ?_
     rotate_left
     ·
      rintro w' ⟨s0, s1, s2, s3, s4, s5, s6, s7, s8, s9⟩
      go_simp
      with_reducible rfl
     rotate_left
     ·
      simp only [Act.put, List.setIfInBounds_toArray, List.set_cons_zero, List.set_cons_succ, i64_w, i32_w]
      rfl
     refine take_ (i := 1) (N := some 40) (v := ?_) (a' := ?_) #[true, true, false, false, false] rfl rfl (by kernel_rfl) (fun _ _ _ h => h) (Or.inl ⟨by rfl, ?_⟩) hHeld ?_ ?_
     rotate_left
     ·
      rintro w' ⟨s0, s1, s2, s3, s4, s5, s6, s7, s8, s9⟩
      go_simp
      with_reducible rfl
     rotate_left
     ·
      simp only [Act.put, List.setIfInBounds_toArray, List.set_cons_zero, List.set_cons_succ, i64_w, i32_w]
      rfl
     refine one_ (i := 2) (N := some 41) #[true, true, true, false, false] rfl rfl (by kernel_rfl) (by decide) (fun K hK => ?_)
     refine goes_ Try.func51 (by kernel_rfl) rfl #[.agg #[.int .i64 a0_0, .int .i64 a0_1, .int .i64 a0_2, .int .i64 a0_3, .slice A0_4 l0_4.length c0_4]] (by rfl) rfl rfl (by (try simp only [List.map_toArray, List.map_cons, List.map_nil]); first | done | rfl | (simp only [List.length_drop, List.length_take]; rfl)) ?_
     with_reducible refine (laws_toPattern.calls k a0_0 a0_1 a0_2 a0_3 _ _ l0_4 t1018 t1019 t1020 t1021 t1022 _ ?side1 ?side2 A14.out).mono ?_
     (case side1 => repeat (first | exact (Kd.C_below HR0_4.out HB.out) | (with_reducible refine Kd.C_alloc ?_ _) | (with_reducible refine Kd.C_drewN ?_ _) | (with_reducible refine Kd.C_drew ?_)))
     (case side2 => exact HC0_4.out)
     rintro e w32 ⟨v1023, rfl, ho0, hb⟩
     refine ⟨_, rfl, ?_⟩
     have n0_ := Aside0.mk (Kd.R_elder' (by (with_reducible repeat (first | apply Kd.R_alloc | apply Kd.R_drewN | apply Kd.R_drew)); exact HO1005.out) (Kd.R_base ho0) hb)
     have n1_ := Aside0.mk (Kd.R_elder' (by (with_reducible repeat (first | apply Kd.R_alloc | apply Kd.R_drewN | apply Kd.R_drew)); exact HO1014.out) (Kd.R_base ho0) hb)
     have n2_ := Aside0.mk (Kd.R_lower (Kd.R_new' (Kd.R_new' ho0 (Kd.R_lt (by (with_reducible repeat (first | apply Kd.R_alloc | apply Kd.R_drewN | apply Kd.R_drew)); exact HO1005.out))) (Kd.R_lt (by (with_reducible repeat (first | apply Kd.R_alloc | apply Kd.R_drewN | apply Kd.R_drew)); exact HO1014.out))) (below_size (by repeat (first | (with_reducible first | exact HB.out | apply below_alloc | apply pw_below_drewN | apply below_drew1 | refine below_set ?_ GE997.out | refine below_set ?_ GE1015.out) | exact HB.out))))
     have n3_ := Aside0.mk (blk_below (g := gb997) (o := .cells #[.int .i64 a0_0, .int .i64 a0_1, .int .i64 a0_2, .int .i64 a0_3, .slice A0_4 l0_4.length c0_4] 68 (0, 0)) (by (with_reducible repeat (first | refine blk_drewN ?_ _ | refine blk_drew ?_ | refine blk_alloc ?_ _)); exact BK997.out) hb)
     have n4_ := Aside0.mk (blk_below (g := gb1015) (o := .cells #[.int .i64 t1008, .int .i64 t1009, .int .i64 t1010, .int .i64 t1011, .slice Ao29 t1012.length co29] 73 (0, 0)) (by (with_reducible repeat (first | refine blk_drewN ?_ _ | refine blk_drew ?_ | refine blk_alloc ?_ _)); exact BK1015.out) hb)
     have n5_ := Aside0.mk (below_step (by repeat (first | (with_reducible first | exact HB.out | apply below_alloc | apply pw_below_drewN | apply below_drew1 | refine below_set ?_ GE997.out | refine below_set ?_ GE1015.out) | exact HB.out)) hb)
     clear HO1005
     clear HO1014
     clear BK997
     clear BK1015
     clear HB
     have HO1005 := n0_
     have HO1014 := n1_
     have HO1024 := n2_
     have BK997 := n3_
     have BK1015 := n4_
     have HB := n5_
     clear n0_ n1_ n2_ n3_ n4_ n5_
     (try clear hb)
     (try clear hb2)
     (try clear hk)
     (try clear hi)
     (try clear ho0)
     obtain ⟨Ao33, co33, eo33⟩ := Kd.R_slice HO1024.out
     (first | subst eo33 | (injection eo33 with f1_ f2_ f3_; have f4_ := f1_.symm; have f5_ := f3_.symm; clear f1_ f2_ f3_; subst f4_; subst f5_))
     refine hK.out _ _ ⟨(blk_cell BK1015.out 0).trans rfl, (blk_cell BK1015.out 1).trans rfl, (blk_cell BK1015.out 2).trans rfl, (blk_cell BK1015.out 3).trans rfl, (blk_cell BK1015.out 4).trans rfl, (blk_cell BK997.out 0).trans rfl, (blk_cell BK997.out 1).trans rfl, (blk_cell BK997.out 2).trans rfl, (blk_cell BK997.out 3).trans rfl, (blk_cell BK997.out 4).trans rfl⟩ (fun hHeld => ?_)
     clear hK K
     refine norm_ (a' := ?_) ?_ ?_
     rotate_left
     ·
      show Act.put _ (some 41) _ = _
      simp only [Act.put, List.setIfInBounds_toArray, List.set_cons_zero, List.set_cons_succ, i64_w, i32_w]
      rfl
     refine one_ (i := 3) (N := some 42) #[true, true, true, true, false] rfl rfl (by kernel_rfl) (by decide) (fun K hK => ?_)
     refine goes_ Try.func53 (by kernel_rfl) rfl #[.agg #[.int .i64 t1008, .int .i64 t1009, .int .i64 t1010, .int .i64 t1011, .slice Ao29 t1012.length co29], .agg #[.int .i64 t1018, .int .i64 t1019, .int .i64 t1020, .int .i64 t1021, .slice Ao33 t1022.length co33]] (by rfl) rfl rfl (by (try simp only [List.map_toArray, List.map_cons, List.map_nil]); first | done | rfl | (simp only [List.length_drop, List.length_take]; rfl)) ?_
     with_reducible refine (laws_eqPattern.calls k t1008 t1009 t1010 t1011 _ _ t1012 t1018 t1019 t1020 t1021 _ _ t1022 true _ ?side1 ?side2 ?side3 ?side4 A15.out).mono ?_
     (case side1 => repeat (first | exact (Kd.R_reads' HO1014.out).2.2 | (with_reducible refine Kd.C_alloc ?_ _) | (with_reducible refine Kd.C_drewN ?_ _) | (with_reducible refine Kd.C_drew ?_)))
     (case side2 => exact (Kd.R_reads' HO1014.out).2.1)
     (case side3 => repeat (first | exact (Kd.R_reads' HO1024.out).2.2 | (with_reducible refine Kd.C_alloc ?_ _) | (with_reducible refine Kd.C_drewN ?_ _) | (with_reducible refine Kd.C_drew ?_)))
     (case side4 => exact (Kd.R_reads' HO1024.out).2.1)
     rintro e w34 ⟨rfl, hb⟩
     refine ⟨_, rfl, ?_⟩
     have n0_ := Aside0.mk (Kd.R_below (by (with_reducible repeat (first | apply Kd.R_alloc | apply Kd.R_drewN | apply Kd.R_drew)); exact HO1005.out) hb)
     have n1_ := Aside0.mk (Kd.R_below (by (with_reducible repeat (first | apply Kd.R_alloc | apply Kd.R_drewN | apply Kd.R_drew)); exact HO1014.out) hb)
     have n2_ := Aside0.mk (Kd.R_below (by (with_reducible repeat (first | apply Kd.R_alloc | apply Kd.R_drewN | apply Kd.R_drew)); exact HO1024.out) hb)
     have n3_ := Aside0.mk (blk_below (g := gb997) (o := .cells #[.int .i64 a0_0, .int .i64 a0_1, .int .i64 a0_2, .int .i64 a0_3, .slice A0_4 l0_4.length c0_4] 68 (0, 0)) (by (with_reducible repeat (first | refine blk_drewN ?_ _ | refine blk_drew ?_ | refine blk_alloc ?_ _)); exact BK997.out) hb)
     have n4_ := Aside0.mk (blk_below (g := gb1015) (o := .cells #[.int .i64 t1008, .int .i64 t1009, .int .i64 t1010, .int .i64 t1011, .slice Ao29 t1012.length co29] 73 (0, 0)) (by (with_reducible repeat (first | refine blk_drewN ?_ _ | refine blk_drew ?_ | refine blk_alloc ?_ _)); exact BK1015.out) hb)
     have n5_ := Aside0.mk (below_step (by repeat (first | (with_reducible first | exact HB.out | apply below_alloc | apply pw_below_drewN | apply below_drew1 | refine below_set ?_ GE997.out | refine below_set ?_ GE1015.out) | exact HB.out)) hb)
     clear HO1005
     clear HO1014
     clear HO1024
     clear BK997
     clear BK1015
     clear HB
     have HO1005 := n0_
     have HO1014 := n1_
     have HO1024 := n2_
     have BK997 := n3_
     have BK1015 := n4_
     have HB := n5_
     clear n0_ n1_ n2_ n3_ n4_ n5_
     (try clear hb)
     (try clear hb2)
     (try clear hk)
     (try clear hi)
     refine hK.out _ _ ⟨(blk_cell BK1015.out 0).trans rfl, (blk_cell BK1015.out 1).trans rfl, (blk_cell BK1015.out 2).trans rfl, (blk_cell BK1015.out 3).trans rfl, (blk_cell BK1015.out 4).trans rfl, (blk_cell BK997.out 0).trans rfl, (blk_cell BK997.out 1).trans rfl, (blk_cell BK997.out 2).trans rfl, (blk_cell BK997.out 3).trans rfl, (blk_cell BK997.out 4).trans rfl⟩ (fun hHeld => ?_)
     clear hK K
     refine norm_ (a' := ?_) ?_ ?_
     rotate_left
     ·
      show Act.put _ (some 42) _ = _
      simp only [Act.put, List.setIfInBounds_toArray, List.set_cons_zero, List.set_cons_succ, i64_w, i32_w]
      rfl
     refine pure_ (i := 4) (N := some 43) (v := ?_) (a' := ?_) #[true, true, true, true, true] rfl rfl (by kernel_rfl) (fun _ _ _ h => h) (Or.inl ⟨by rfl, ?_⟩) ?_ ?_
     rotate_left
     ·
      intro w'
      go_simp
      with_reducible rfl
     rotate_left
     ·
      simp only [Act.put, List.setIfInBounds_toArray, List.set_cons_zero, List.set_cons_succ, i64_w, i32_w]
      rfl
     refine done_ (by kernel_rfl) ?_
     try go_wp2
     go_ret
     exact ⟨by first | rfl | (simp [errW_none, errW_some] <;> rfl) | (simp [*, errW_none, errW_some] <;> rfl), by repeat (first | (with_reducible first | exact HB.out | apply below_alloc | apply pw_below_drewN | apply below_drew1 | refine below_set ?_ GE997.out | refine below_set ?_ GE1015.out) | exact HB.out)⟩
    ·
     replace c16 := Bool.eq_false_iff.mpr c16
     subst c16
     have H1 : (none) = some r := by rw [if_neg (show ¬ (false = true) by decide)] at H; exact H
     clear H
     have H := H1
     clear H1
     exact absurd H (by simp)
   ·
    rw [if_neg c13] at H
    exact absurd H (by simp)
  ·
   rw [if_neg c12] at H
   exact absurd H (by simp)

end Go.Proofs.Ytjjockhekaccnaa.X
