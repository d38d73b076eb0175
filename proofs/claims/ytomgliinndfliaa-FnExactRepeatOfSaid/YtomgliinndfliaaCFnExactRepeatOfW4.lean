/- Part of the proof of the law FnExactRepeatOf: each function of the code computes what its plain function says. No condition of its own. -/
import Derived.Test.YtomgliinndfliaaCFnExactRepeatOfW3
namespace Go.Proofs.Ytomgliinndfliaa.X
open Go.RowKit Go.Proofs.YtomgliinndfliaaW.PrintWords Go.Proofs.YtomgliinndfliaaW.PrintLast Go.Proofs.YtomgliinndfliaaW.PrintMore
attribute [local go_sem] max2_int min2_int max_two min_two max_three min_three max_four min_four   -- for this text's walks alone
set_option linter.unusedVariables false
set_option linter.unusedSimpArgs false

/-! ### laws_FnExactRepeatOf: function 9 -/
set_option maxHeartbeats 8000000 in
set_option maxRecDepth 100000 in
theorem laws_FnExactRepeatOf.calls (k : Nat) (a0_0 : Int) (a0_1 : Int) (a0_2 : Int) (a0_3 : Int) (A0_4 : Option Addr) (c0_4 : Nat) (l0_4 : List Int) (r : Bool) (w : World) (hr0_4 : Kd.C (Kd.int .i64) w A0_4 l0_4.length l0_4) (hc0_4 : l0_4.length ≤ c0_4) (h : laws_FnExactRepeatOf.f k a0_0 a0_1 a0_2 a0_3 l0_4 = some r) :
  Calls Try.prog 9 #[.agg #[.int .i64 a0_0, .int .i64 a0_1, .int .i64 a0_2, .int .i64 a0_3, .slice A0_4 l0_4.length c0_4]] w fun e w' => e = .returned (.bool r) ∧ Below w.heap.size w w' := by
 have hu26 := Try.underlying26
 have hu30 := Try.underlying30
 have HR0_4 := Aside0.mk hr0_4
 have HC0_4 := Aside0.mk hc0_4
 clear hr0_4 hc0_4
 have HB := Aside0.mk (Below.refl w.heap.size w)
 have H : ((laws_szPattern.f a0_0 a0_1 a0_2 a0_3 l0_4 1048576).bind fun t1604 => (if t1604 < 0 then (some true) else ((laws_toPattern.f k a0_0 a0_1 a0_2 a0_3 l0_4).bind fun bt1605 => ((spec_RepeatOf.f k bt1605.1 bt1605.2.1 bt1605.2.2.1 bt1605.2.2.2.1 bt1605.2.2.2.2).bind fun bt1612 => ((laws_toPattern.f k a0_0 a0_1 a0_2 a0_3 l0_4).bind fun bt1614 => ((impl_RepeatOf.f k bt1614.1 bt1614.2.1 bt1614.2.2.1 bt1614.2.2.2.1 bt1614.2.2.2.2).bind fun bt1622 => (if bt1622.1 = bt1612.1 then (if bt1622.2 = bt1612.2 then ((laws_toPattern.f k a0_0 a0_1 a0_2 a0_3 l0_4).bind fun bt1624 => ((laws_eqPattern.f k bt1614.1 bt1614.2.1 bt1614.2.2.1 bt1614.2.2.2.1 bt1614.2.2.2.2 bt1624.1 bt1624.2.1 bt1624.2.2.1 bt1624.2.2.2.1 bt1624.2.2.2.2).bind fun t1631 => (if t1631 = true then (some true) else (none)))) else (none)) else (none)))))))) = some r := h
 clear h
 replace H := Option.bind_eq_some_iff.mp H
 obtain ⟨t1604, A20, H⟩ := H
 replace H : (if t1604 < 0 then (some true) else ((laws_toPattern.f k a0_0 a0_1 a0_2 a0_3 l0_4).bind fun bt1605 => ((spec_RepeatOf.f k bt1605.1 bt1605.2.1 bt1605.2.2.1 bt1605.2.2.2.1 bt1605.2.2.2.2).bind fun bt1612 => ((laws_toPattern.f k a0_0 a0_1 a0_2 a0_3 l0_4).bind fun bt1614 => ((impl_RepeatOf.f k bt1614.1 bt1614.2.1 bt1614.2.2.1 bt1614.2.2.2.1 bt1614.2.2.2.2).bind fun bt1622 => (if bt1622.1 = bt1612.1 then (if bt1622.2 = bt1612.2 then ((laws_toPattern.f k a0_0 a0_1 a0_2 a0_3 l0_4).bind fun bt1624 => ((laws_eqPattern.f k bt1614.1 bt1614.2.1 bt1614.2.2.1 bt1614.2.2.2.1 bt1614.2.2.2.2 bt1624.1 bt1624.2.1 bt1624.2.2.1 bt1624.2.2.2.1 bt1624.2.2.2.2).bind fun t1631 => (if t1631 = true then (some true) else (none)))) else (none)) else (none))))))) = some r := H
 have A2 := Aside0.mk A20
 clear A20
 by_cases c3 : t1604 < 0
 ·
  rw [if_pos c3] at H
  have c3b0 : decide (t1604 < 0) = true := decide_eq_true c3
  clear c3
  obtain rfl := Option.some.inj H
  go_enter Try.func9, Try.ntmps9
  go_wp2_with (first | ((with_reducible refine gate_dst (N := 1) rfl ?_); refine box_event ?hg (N := 1) ?hd (cs := #[.int .i64 a0_0, .int .i64 a0_1, .int .i64 a0_2, .int .i64 a0_3, .slice A0_4 l0_4.length c0_4]) (t := 26) ?hr ?_; (case hd => rfl); (case hg => rfl); (case hr => first | (go_simp; done) | (go_simp; rfl)); intro gb1603 hg w4 hbox hb; have n0_ := Aside0.mk (below_step (by repeat (first | (with_reducible first | exact HB.out | apply below_alloc | apply pw_below_drewN | apply below_drew1) | exact HB.out)) hb); have n1_ := Aside0.mk (hbox); have n2_ := Aside0.mk ((by rw [hg]; exact (below_size (by repeat (first | (with_reducible first | exact HB.out | apply below_alloc | apply pw_below_drewN | apply below_drew1) | exact HB.out))) : w.heap.size ≤ gb1603)); have n3_ := Aside0.mk ((by rw [hg]; exact (below_size (by repeat (first | (with_reducible first | exact HB.out | apply below_alloc | apply pw_below_drewN | apply below_drew1) | exact HB.out))) : w.heap.size ≤ gb1603)); clear HB; have HB := n0_; have BK1603 := n1_; have GW1603 := n2_; have GE1603 := n3_; clear n0_ n1_ n2_ n3_; clear hb hbox hg; have hcz5_0 : w4.cell? ⟨gb1603, 0, none⟩ = some (.int .i64 a0_0) := (blk_cell BK1603.out 0).trans rfl; have hcz5_1 : w4.cell? ⟨gb1603, 1, none⟩ = some (.int .i64 a0_1) := (blk_cell BK1603.out 1).trans rfl; have hcz5_2 : w4.cell? ⟨gb1603, 2, none⟩ = some (.int .i64 a0_2) := (blk_cell BK1603.out 2).trans rfl; have hcz5_3 : w4.cell? ⟨gb1603, 3, none⟩ = some (.int .i64 a0_3) := (blk_cell BK1603.out 3).trans rfl; have hcz5_4 : w4.cell? ⟨gb1603, 4, none⟩ = some (.slice A0_4 l0_4.length c0_4) := (blk_cell BK1603.out 4).trans rfl; have hfz5_0 := blk_frozen BK1603.out 0; have hfz5_1 := blk_frozen BK1603.out 1; have hfz5_2 := blk_frozen BK1603.out 2; have hfz5_3 := blk_frozen BK1603.out 3; have hfz5_4 := blk_frozen BK1603.out 4) | ((with_reducible refine gate_callee (f := 14) rfl ?_); refine goesL_ (some 11) rfl rfl Try.func14 (by kernel_rfl) rfl #[.agg #[.int .i64 a0_0, .int .i64 a0_1, .int .i64 a0_2, .int .i64 a0_3, .slice A0_4 l0_4.length c0_4], .int .i64 1048576] rfl (by (try simp only [List.map_toArray, List.map_cons, List.map_nil]); first | done | rfl | (simp only [List.length_drop, List.length_take]; rfl)) ?_; (with_reducible refine (laws_szPattern.calls a0_0 a0_1 a0_2 a0_3 _ _ l0_4 1048576 t1604 _ ?side1 ?side2 A2.out).mono ?_); (case side1 => repeat (first | exact (Kd.C_below HR0_4.out HB.out) | (with_reducible refine Kd.C_alloc ?_ _) | (with_reducible refine Kd.C_drewN ?_ _) | (with_reducible refine Kd.C_drew ?_))); (case side2 => exact HC0_4.out); rintro e w6 ⟨rfl, hb⟩; refine ⟨_, rfl, ?_⟩; have n0_ := Aside0.mk (blk_below (g := gb1603) (o := .cells #[.int .i64 a0_0, .int .i64 a0_1, .int .i64 a0_2, .int .i64 a0_3, .slice A0_4 l0_4.length c0_4] 26 (0, 0)) (by (with_reducible repeat (first | refine blk_drewN ?_ _ | refine blk_drew ?_ | refine blk_alloc ?_ _)); exact BK1603.out) hb); have n1_ := Aside0.mk (below_step (by repeat (first | (with_reducible first | exact HB.out | apply below_alloc | apply pw_below_drewN | apply below_drew1 | refine below_set ?_ GE1603.out) | exact HB.out)) hb); clear BK1603; clear HB; have BK1603 := n0_; have HB := n1_; clear n0_ n1_; (try clear hb); (try clear hb2); (try clear hk); (try clear hi)))
  go_ret
  exact ⟨by first | rfl | (simp [errW_none, errW_some] <;> rfl) | (simp [*, errW_none, errW_some] <;> rfl), by repeat (first | (with_reducible first | exact HB.out | apply below_alloc | apply pw_below_drewN | apply below_drew1 | refine below_set ?_ GE1603.out) | exact HB.out)⟩
 ·
  rw [if_neg c3] at H
  have c3b0 : decide (t1604 < 0) = false := decide_eq_false c3
  clear c3
  replace H := Option.bind_eq_some_iff.mp H
  obtain ⟨⟨t1605, t1606, t1607, t1608, t1609⟩, A70, H⟩ := H
  replace H : ((spec_RepeatOf.f k t1605 t1606 t1607 t1608 t1609).bind fun bt1612 => ((laws_toPattern.f k a0_0 a0_1 a0_2 a0_3 l0_4).bind fun bt1614 => ((impl_RepeatOf.f k bt1614.1 bt1614.2.1 bt1614.2.2.1 bt1614.2.2.2.1 bt1614.2.2.2.2).bind fun bt1622 => (if bt1622.1 = bt1612.1 then (if bt1622.2 = bt1612.2 then ((laws_toPattern.f k a0_0 a0_1 a0_2 a0_3 l0_4).bind fun bt1624 => ((laws_eqPattern.f k bt1614.1 bt1614.2.1 bt1614.2.2.1 bt1614.2.2.2.1 bt1614.2.2.2.2 bt1624.1 bt1624.2.1 bt1624.2.2.1 bt1624.2.2.2.1 bt1624.2.2.2.2).bind fun t1631 => (if t1631 = true then (some true) else (none)))) else (none)) else (none))))) = some r := H
  have A7 := Aside0.mk A70
  clear A70
  replace H := Option.bind_eq_some_iff.mp H
  obtain ⟨⟨t1612, t1613⟩, A80, H⟩ := H
  replace H : ((laws_toPattern.f k a0_0 a0_1 a0_2 a0_3 l0_4).bind fun bt1614 => ((impl_RepeatOf.f k bt1614.1 bt1614.2.1 bt1614.2.2.1 bt1614.2.2.2.1 bt1614.2.2.2.2).bind fun bt1622 => (if bt1622.1 = t1612 then (if bt1622.2 = t1613 then ((laws_toPattern.f k a0_0 a0_1 a0_2 a0_3 l0_4).bind fun bt1624 => ((laws_eqPattern.f k bt1614.1 bt1614.2.1 bt1614.2.2.1 bt1614.2.2.2.1 bt1614.2.2.2.2 bt1624.1 bt1624.2.1 bt1624.2.2.1 bt1624.2.2.2.1 bt1624.2.2.2.2).bind fun t1631 => (if t1631 = true then (some true) else (none)))) else (none)) else (none)))) = some r := H
  have A8 := Aside0.mk A80
  clear A80
  replace H := Option.bind_eq_some_iff.mp H
  obtain ⟨⟨t1614, t1615, t1616, t1617, t1618⟩, A90, H⟩ := H
  replace H : ((impl_RepeatOf.f k t1614 t1615 t1616 t1617 t1618).bind fun bt1622 => (if bt1622.1 = t1612 then (if bt1622.2 = t1613 then ((laws_toPattern.f k a0_0 a0_1 a0_2 a0_3 l0_4).bind fun bt1624 => ((laws_eqPattern.f k t1614 t1615 t1616 t1617 t1618 bt1624.1 bt1624.2.1 bt1624.2.2.1 bt1624.2.2.2.1 bt1624.2.2.2.2).bind fun t1631 => (if t1631 = true then (some true) else (none)))) else (none)) else (none))) = some r := H
  have A9 := Aside0.mk A90
  clear A90
  replace H := Option.bind_eq_some_iff.mp H
  obtain ⟨⟨t1622, t1623⟩, A100, H⟩ := H
  replace H : (if t1622 = t1612 then (if t1623 = t1613 then ((laws_toPattern.f k a0_0 a0_1 a0_2 a0_3 l0_4).bind fun bt1624 => ((laws_eqPattern.f k t1614 t1615 t1616 t1617 t1618 bt1624.1 bt1624.2.1 bt1624.2.2.1 bt1624.2.2.2.1 bt1624.2.2.2.2).bind fun t1631 => (if t1631 = true then (some true) else (none)))) else (none)) else (none)) = some r := H
  have A10 := Aside0.mk A100
  clear A100
  by_cases c11 : t1622 = t1612
  ·
   rw [if_pos c11] at H
   have c11b0 : (t1622 == t1612) = true := beq_iff_eq.mpr c11
   have c11b1 : (t1622 != t1612) = false := bne_eq_false_iff_eq.mpr c11
   clear c11
   by_cases c12 : t1623 = t1613
   ·
    rw [if_pos c12] at H
    have c12b0 : (t1623 == t1613) = true := beq_iff_eq.mpr c12
    have c12b1 : (t1623 != t1613) = false := bne_eq_false_iff_eq.mpr c12
    clear c12
    replace H := Option.bind_eq_some_iff.mp H
    obtain ⟨⟨t1624, t1625, t1626, t1627, t1628⟩, A130, H⟩ := H
    replace H : ((laws_eqPattern.f k t1614 t1615 t1616 t1617 t1618 t1624 t1625 t1626 t1627 t1628).bind fun t1631 => (if t1631 = true then (some true) else (none))) = some r := H
    have A13 := Aside0.mk A130
    clear A130
    replace H := Option.bind_eq_some_iff.mp H
    obtain ⟨t1631, A140, H⟩ := H
    replace H : (if t1631 = true then (some true) else (none)) = some r := H
    have A14 := Aside0.mk A140
    clear A140
    by_cases c15 : t1631 = true
    ·
     subst c15
     have H1 : (some true) = some r := by rw [if_pos rfl] at H; exact H
     clear H
     have H := H1
     clear H1
     obtain rfl := Option.some.inj H
     go_enter Try.func9, Try.ntmps9
     try go_wp2_with (first | ((with_reducible refine gate_dst (N := 1) rfl ?_); refine box_event ?hg (N := 1) ?hd (cs := #[.int .i64 a0_0, .int .i64 a0_1, .int .i64 a0_2, .int .i64 a0_3, .slice A0_4 l0_4.length c0_4]) (t := 26) ?hr ?_; (case hd => rfl); (case hg => rfl); (case hr => first | (go_simp; done) | (go_simp; rfl)); intro gb1603 hg w16 hbox hb; have n0_ := Aside0.mk (below_step (by repeat (first | (with_reducible first | exact HB.out | apply below_alloc | apply pw_below_drewN | apply below_drew1) | exact HB.out)) hb); have n1_ := Aside0.mk (hbox); have n2_ := Aside0.mk ((by rw [hg]; exact (below_size (by repeat (first | (with_reducible first | exact HB.out | apply below_alloc | apply pw_below_drewN | apply below_drew1) | exact HB.out))) : w.heap.size ≤ gb1603)); have n3_ := Aside0.mk ((by rw [hg]; exact (below_size (by repeat (first | (with_reducible first | exact HB.out | apply below_alloc | apply pw_below_drewN | apply below_drew1) | exact HB.out))) : w.heap.size ≤ gb1603)); clear HB; have HB := n0_; have BK1603 := n1_; have GW1603 := n2_; have GE1603 := n3_; clear n0_ n1_ n2_ n3_; clear hb hbox hg; have hcz17_0 : w16.cell? ⟨gb1603, 0, none⟩ = some (.int .i64 a0_0) := (blk_cell BK1603.out 0).trans rfl; have hcz17_1 : w16.cell? ⟨gb1603, 1, none⟩ = some (.int .i64 a0_1) := (blk_cell BK1603.out 1).trans rfl; have hcz17_2 : w16.cell? ⟨gb1603, 2, none⟩ = some (.int .i64 a0_2) := (blk_cell BK1603.out 2).trans rfl; have hcz17_3 : w16.cell? ⟨gb1603, 3, none⟩ = some (.int .i64 a0_3) := (blk_cell BK1603.out 3).trans rfl; have hcz17_4 : w16.cell? ⟨gb1603, 4, none⟩ = some (.slice A0_4 l0_4.length c0_4) := (blk_cell BK1603.out 4).trans rfl; have hfz17_0 := blk_frozen BK1603.out 0; have hfz17_1 := blk_frozen BK1603.out 1; have hfz17_2 := blk_frozen BK1603.out 2; have hfz17_3 := blk_frozen BK1603.out 3; have hfz17_4 := blk_frozen BK1603.out 4) | ((with_reducible refine gate_callee (f := 14) rfl ?_); refine goesL_ (some 11) rfl rfl Try.func14 (by kernel_rfl) rfl #[.agg #[.int .i64 a0_0, .int .i64 a0_1, .int .i64 a0_2, .int .i64 a0_3, .slice A0_4 l0_4.length c0_4], .int .i64 1048576] rfl (by (try simp only [List.map_toArray, List.map_cons, List.map_nil]); first | done | rfl | (simp only [List.length_drop, List.length_take]; rfl)) ?_; (with_reducible refine (laws_szPattern.calls a0_0 a0_1 a0_2 a0_3 _ _ l0_4 1048576 t1604 _ ?side1 ?side2 A2.out).mono ?_); (case side1 => repeat (first | exact (Kd.C_below HR0_4.out HB.out) | (with_reducible refine Kd.C_alloc ?_ _) | (with_reducible refine Kd.C_drewN ?_ _) | (with_reducible refine Kd.C_drew ?_))); (case side2 => exact HC0_4.out); rintro e w18 ⟨rfl, hb⟩; refine ⟨_, rfl, ?_⟩; have n0_ := Aside0.mk (blk_below (g := gb1603) (o := .cells #[.int .i64 a0_0, .int .i64 a0_1, .int .i64 a0_2, .int .i64 a0_3, .slice A0_4 l0_4.length c0_4] 26 (0, 0)) (by (with_reducible repeat (first | refine blk_drewN ?_ _ | refine blk_drew ?_ | refine blk_alloc ?_ _)); exact BK1603.out) hb); have n1_ := Aside0.mk (below_step (by repeat (first | (with_reducible first | exact HB.out | apply below_alloc | apply pw_below_drewN | apply below_drew1 | refine below_set ?_ GE1603.out) | exact HB.out)) hb); clear BK1603; clear HB; have BK1603 := n0_; have HB := n1_; clear n0_ n1_; (try clear hb); (try clear hb2); (try clear hk); (try clear hi); have hcz19_0 : w18.cell? ⟨gb1603, 0, none⟩ = some (.int .i64 a0_0) := (blk_cell BK1603.out 0).trans rfl; have hcz19_1 : w18.cell? ⟨gb1603, 1, none⟩ = some (.int .i64 a0_1) := (blk_cell BK1603.out 1).trans rfl; have hcz19_2 : w18.cell? ⟨gb1603, 2, none⟩ = some (.int .i64 a0_2) := (blk_cell BK1603.out 2).trans rfl; have hcz19_3 : w18.cell? ⟨gb1603, 3, none⟩ = some (.int .i64 a0_3) := (blk_cell BK1603.out 3).trans rfl; have hcz19_4 : w18.cell? ⟨gb1603, 4, none⟩ = some (.slice A0_4 l0_4.length c0_4) := (blk_cell BK1603.out 4).trans rfl; have hfz19_0 := blk_frozen BK1603.out 0; have hfz19_1 := blk_frozen BK1603.out 1; have hfz19_2 := blk_frozen BK1603.out 2; have hfz19_3 := blk_frozen BK1603.out 3; have hfz19_4 := blk_frozen BK1603.out 4) | ((with_reducible refine gate_callee (f := 16) rfl ?_); refine goesL_ (some 16) rfl rfl Try.func16 (by kernel_rfl) rfl #[.agg #[.int .i64 a0_0, .int .i64 a0_1, .int .i64 a0_2, .int .i64 a0_3, .slice A0_4 l0_4.length c0_4]] rfl (by (try simp only [List.map_toArray, List.map_cons, List.map_nil]); first | done | rfl | (simp only [List.length_drop, List.length_take]; rfl)) ?_; (with_reducible refine (laws_toPattern.calls k a0_0 a0_1 a0_2 a0_3 _ _ l0_4 t1605 t1606 t1607 t1608 t1609 _ ?side1 ?side2 A7.out).mono ?_); (case side1 => repeat (first | exact (Kd.C_below HR0_4.out HB.out) | (with_reducible refine Kd.C_alloc ?_ _) | (with_reducible refine Kd.C_drewN ?_ _) | (with_reducible refine Kd.C_drew ?_))); (case side2 => exact HC0_4.out); rintro e w20 ⟨v1610, rfl, ho0, hb⟩; refine ⟨_, rfl, ?_⟩; have n0_ := Aside0.mk (Kd.R_lower ho0 (below_size (by repeat (first | (with_reducible first | exact HB.out | apply below_alloc | apply pw_below_drewN | apply below_drew1 | refine below_set ?_ GE1603.out) | exact HB.out)))); have n1_ := Aside0.mk (blk_below (g := gb1603) (o := .cells #[.int .i64 a0_0, .int .i64 a0_1, .int .i64 a0_2, .int .i64 a0_3, .slice A0_4 l0_4.length c0_4] 26 (0, 0)) (by (with_reducible repeat (first | refine blk_drewN ?_ _ | refine blk_drew ?_ | refine blk_alloc ?_ _)); exact BK1603.out) hb); have n2_ := Aside0.mk (below_step (by repeat (first | (with_reducible first | exact HB.out | apply below_alloc | apply pw_below_drewN | apply below_drew1 | refine below_set ?_ GE1603.out) | exact HB.out)) hb); clear BK1603; clear HB; have HO1611 := n0_; have BK1603 := n1_; have HB := n2_; clear n0_ n1_ n2_; (try clear hb); (try clear hb2); (try clear hk); (try clear hi); (try clear ho0); obtain ⟨Ao21, co21, eo21⟩ := Kd.R_slice HO1611.out; subst eo21) | ((with_reducible refine gate_callee (f := 46) rfl ?_); refine goesL_ (some 17) rfl rfl Try.func46 (by kernel_rfl) rfl #[.agg #[.int .i64 t1605, .int .i64 t1606, .int .i64 t1607, .int .i64 t1608, .slice Ao21 t1609.length co21]] rfl (by (try simp only [List.map_toArray, List.map_cons, List.map_nil]); first | done | rfl | (simp only [List.length_drop, List.length_take]; rfl)) ?_; (with_reducible refine (spec_RepeatOf.calls k t1605 t1606 t1607 t1608 _ _ t1609 t1612 t1613 _ ?side1 ?side2 A8.out).mono ?_); (case side1 => repeat (first | exact (Kd.R_reads' HO1611.out).2.2 | (with_reducible refine Kd.C_alloc ?_ _) | (with_reducible refine Kd.C_drewN ?_ _) | (with_reducible refine Kd.C_drew ?_))); (case side2 => exact (Kd.R_reads' HO1611.out).2.1); rintro e w22 ⟨rfl, hb⟩; refine ⟨_, rfl, ?_⟩; have n0_ := Aside0.mk (Kd.R_below (by (with_reducible repeat (first | apply Kd.R_alloc | apply Kd.R_drewN | apply Kd.R_drew)); exact HO1611.out) hb); have n1_ := Aside0.mk (blk_below (g := gb1603) (o := .cells #[.int .i64 a0_0, .int .i64 a0_1, .int .i64 a0_2, .int .i64 a0_3, .slice A0_4 l0_4.length c0_4] 26 (0, 0)) (by (with_reducible repeat (first | refine blk_drewN ?_ _ | refine blk_drew ?_ | refine blk_alloc ?_ _)); exact BK1603.out) hb); have n2_ := Aside0.mk (below_step (by repeat (first | (with_reducible first | exact HB.out | apply below_alloc | apply pw_below_drewN | apply below_drew1 | refine below_set ?_ GE1603.out) | exact HB.out)) hb); clear HO1611; clear BK1603; clear HB; have HO1611 := n0_; have BK1603 := n1_; have HB := n2_; clear n0_ n1_ n2_; (try clear hb); (try clear hb2); (try clear hk); (try clear hi); have hcz23_0 : w22.cell? ⟨gb1603, 0, none⟩ = some (.int .i64 a0_0) := (blk_cell BK1603.out 0).trans rfl; have hcz23_1 : w22.cell? ⟨gb1603, 1, none⟩ = some (.int .i64 a0_1) := (blk_cell BK1603.out 1).trans rfl; have hcz23_2 : w22.cell? ⟨gb1603, 2, none⟩ = some (.int .i64 a0_2) := (blk_cell BK1603.out 2).trans rfl; have hcz23_3 : w22.cell? ⟨gb1603, 3, none⟩ = some (.int .i64 a0_3) := (blk_cell BK1603.out 3).trans rfl; have hcz23_4 : w22.cell? ⟨gb1603, 4, none⟩ = some (.slice A0_4 l0_4.length c0_4) := (blk_cell BK1603.out 4).trans rfl; have hfz23_0 := blk_frozen BK1603.out 0; have hfz23_1 := blk_frozen BK1603.out 1; have hfz23_2 := blk_frozen BK1603.out 2; have hfz23_3 := blk_frozen BK1603.out 3; have hfz23_4 := blk_frozen BK1603.out 4) | ((with_reducible refine gate_callee (f := 16) rfl ?_); refine goesL_ (some 21) rfl rfl Try.func16 (by kernel_rfl) rfl #[.agg #[.int .i64 a0_0, .int .i64 a0_1, .int .i64 a0_2, .int .i64 a0_3, .slice A0_4 l0_4.length c0_4]] rfl (by (try simp only [List.map_toArray, List.map_cons, List.map_nil]); first | done | rfl | (simp only [List.length_drop, List.length_take]; rfl)) ?_; (with_reducible refine (laws_toPattern.calls k a0_0 a0_1 a0_2 a0_3 _ _ l0_4 t1614 t1615 t1616 t1617 t1618 _ ?side1 ?side2 A9.out).mono ?_); (case side1 => repeat (first | exact (Kd.C_below HR0_4.out HB.out) | (with_reducible refine Kd.C_alloc ?_ _) | (with_reducible refine Kd.C_drewN ?_ _) | (with_reducible refine Kd.C_drew ?_))); (case side2 => exact HC0_4.out); rintro e w24 ⟨v1619, rfl, ho0, hb⟩; refine ⟨_, rfl, ?_⟩; have n0_ := Aside0.mk (Kd.R_elder' (by (with_reducible repeat (first | apply Kd.R_alloc | apply Kd.R_drewN | apply Kd.R_drew)); exact HO1611.out) (Kd.R_base ho0) hb); have n1_ := Aside0.mk (Kd.R_lower (Kd.R_new' ho0 (Kd.R_lt (by (with_reducible repeat (first | apply Kd.R_alloc | apply Kd.R_drewN | apply Kd.R_drew)); exact HO1611.out))) (below_size (by repeat (first | (with_reducible first | exact HB.out | apply below_alloc | apply pw_below_drewN | apply below_drew1 | refine below_set ?_ GE1603.out) | exact HB.out)))); have n2_ := Aside0.mk (blk_below (g := gb1603) (o := .cells #[.int .i64 a0_0, .int .i64 a0_1, .int .i64 a0_2, .int .i64 a0_3, .slice A0_4 l0_4.length c0_4] 26 (0, 0)) (by (with_reducible repeat (first | refine blk_drewN ?_ _ | refine blk_drew ?_ | refine blk_alloc ?_ _)); exact BK1603.out) hb); have n3_ := Aside0.mk (below_step (by repeat (first | (with_reducible first | exact HB.out | apply below_alloc | apply pw_below_drewN | apply below_drew1 | refine below_set ?_ GE1603.out) | exact HB.out)) hb); clear HO1611; clear BK1603; clear HB; have HO1611 := n0_; have HO1620 := n1_; have BK1603 := n2_; have HB := n3_; clear n0_ n1_ n2_ n3_; (try clear hb); (try clear hb2); (try clear hk); (try clear hi); (try clear ho0)) | ((with_reducible refine gate_dst (N := 6) rfl ?_); refine box_event ?hg (N := 6) ?hd (cs := #[.int .i64 0, .int .i64 0, .int .i64 0, .int .i64 0, .slice none 0 0]) (t := 30) ?hr ?_; (case hd => rfl); (case hg => rfl); (case hr => first | (go_simp; done) | (go_simp; rfl)); intro gb1621 hg w25 hbox hb; have n0_ := Aside0.mk (Kd.R_below (by (with_reducible repeat (first | apply Kd.R_alloc | apply Kd.R_drewN | apply Kd.R_drew)); exact HO1611.out) hb); have n1_ := Aside0.mk (Kd.R_below (by (with_reducible repeat (first | apply Kd.R_alloc | apply Kd.R_drewN | apply Kd.R_drew)); exact HO1620.out) hb); have n2_ := Aside0.mk (blk_below (g := gb1603) (o := .cells #[.int .i64 a0_0, .int .i64 a0_1, .int .i64 a0_2, .int .i64 a0_3, .slice A0_4 l0_4.length c0_4] 26 (0, 0)) (by (with_reducible repeat (first | refine blk_drewN ?_ _ | refine blk_drew ?_ | refine blk_alloc ?_ _)); exact BK1603.out) hb); have n3_ := Aside0.mk (below_step (by repeat (first | (with_reducible first | exact HB.out | apply below_alloc | apply pw_below_drewN | apply below_drew1 | refine below_set ?_ GE1603.out) | exact HB.out)) hb); have n4_ := Aside0.mk (hbox); have n5_ := Aside0.mk ((by rw [hg]; exact (below_size (by repeat (first | (with_reducible first | exact HB.out | apply below_alloc | apply pw_below_drewN | apply below_drew1 | refine below_set ?_ GE1603.out) | exact HB.out))) : w.heap.size ≤ gb1621)); have n6_ := Aside0.mk ((by rw [hg]; exact (below_size (by repeat (first | (with_reducible first | exact HB.out | apply below_alloc | apply pw_below_drewN | apply below_drew1 | refine below_set ?_ GE1603.out) | exact HB.out))) : w.heap.size ≤ gb1621)); have n7_ := Aside0.mk ((by rw [hg]; exact Nat.ne_of_lt (blk_lt (g := gb1603) (o := .cells #[.int .i64 a0_0, .int .i64 a0_1, .int .i64 a0_2, .int .i64 a0_3, .slice A0_4 l0_4.length c0_4] 26 (0, 0)) (by (with_reducible repeat (first | refine blk_drewN ?_ _ | refine blk_drew ?_ | refine blk_alloc ?_ _)); exact BK1603.out)) : gb1603 ≠ gb1621)); have n8_ := Aside0.mk ((by rw [hg]; exact Nat.ne_of_gt (blk_lt (g := gb1603) (o := .cells #[.int .i64 a0_0, .int .i64 a0_1, .int .i64 a0_2, .int .i64 a0_3, .slice A0_4 l0_4.length c0_4] 26 (0, 0)) (by (with_reducible repeat (first | refine blk_drewN ?_ _ | refine blk_drew ?_ | refine blk_alloc ?_ _)); exact BK1603.out)) : gb1621 ≠ gb1603)); clear HO1611; clear HO1620; clear BK1603; clear HB; have HO1611 := n0_; have HO1620 := n1_; have BK1603 := n2_; have HB := n3_; have BK1621 := n4_; have GW1621 := n5_; have GE1621 := n6_; have NB1603_1621 := n7_; have NB1621_1603 := n8_; clear n0_ n1_ n2_ n3_ n4_ n5_ n6_ n7_ n8_; clear hb hbox hg; have hnb26 := NB1621_1603.out; have hnc26 := NB1603_1621.out; have hcz27_0 : w25.cell? ⟨gb1621, 0, none⟩ = some (.int .i64 0) := (blk_cell BK1621.out 0).trans rfl; have hcz27_1 : w25.cell? ⟨gb1621, 1, none⟩ = some (.int .i64 0) := (blk_cell BK1621.out 1).trans rfl; have hcz27_2 : w25.cell? ⟨gb1621, 2, none⟩ = some (.int .i64 0) := (blk_cell BK1621.out 2).trans rfl; have hcz27_3 : w25.cell? ⟨gb1621, 3, none⟩ = some (.int .i64 0) := (blk_cell BK1621.out 3).trans rfl; have hcz27_4 : w25.cell? ⟨gb1621, 4, none⟩ = some (.slice none 0 0) := (blk_cell BK1621.out 4).trans rfl; have hfz27_0 := blk_frozen BK1621.out 0; have hfz27_1 := blk_frozen BK1621.out 1; have hfz27_2 := blk_frozen BK1621.out 2; have hfz27_3 := blk_frozen BK1621.out 3; have hfz27_4 := blk_frozen BK1621.out 4; obtain ⟨Ao28, co28, eo28⟩ := Kd.R_slice HO1620.out; subst eo28) | ((with_reducible refine gate_callee (f := 47) rfl ?_); refine goesL_ (some 24) rfl rfl Try.func47 (by kernel_rfl) rfl #[.agg #[.int .i64 t1614, .int .i64 t1615, .int .i64 t1616, .int .i64 t1617, .slice Ao28 t1618.length co28]] rfl (by (try simp only [List.map_toArray, List.map_cons, List.map_nil]); first | done | rfl | (simp only [List.length_drop, List.length_take]; rfl)) ?_; (with_reducible refine (impl_RepeatOf.calls k t1614 t1615 t1616 t1617 _ _ t1618 t1622 t1623 _ ?side1 ?side2 A10.out).mono ?_); (case side1 => refine (Kd.R_reads' (e := 2) (base := w.heap.size) (ok := fun k_ => (True ∧ some k_ ≠ (.slice Ao21 t1609.length co21 : Value).ownBlock)) (n := t1618.length) (c := co28) ?_).2.2; exact (by (with_reducible repeat (first | apply Kd.R_alloc | apply Kd.R_drewN | apply Kd.R_drew)); exact (Kd.R_mono (Kd.R_far (p := ⟨gb1621, 4, none⟩) (Kd.R_far (p := ⟨gb1621, 3, none⟩) (Kd.R_far (p := ⟨gb1621, 2, none⟩) (Kd.R_far (p := ⟨gb1621, 1, none⟩) (Kd.R_far (p := ⟨gb1621, 0, none⟩) (Kd.R_types HO1620.out BK1621.out (by decide)) (fun _ hk => hk.2) (.int .i64 t1614)) (fun _ hk => hk.2) (.int .i64 t1615)) (fun _ hk => hk.2) (.int .i64 t1616)) (fun _ hk => hk.2) (.int .i64 t1617)) (fun _ hk => hk.2) (.slice Ao28 t1618.length co28)) (fun _ h_ => h_.1)))); (case side2 => exact (Kd.R_reads' HO1620.out).2.1); rintro e w29 ⟨rfl, hb⟩; refine ⟨_, rfl, ?_⟩; have n0_ := Aside0.mk (Kd.R_below (by (with_reducible repeat (first | apply Kd.R_alloc | apply Kd.R_drewN | apply Kd.R_drew)); exact (Kd.R_mono (Kd.R_far (p := ⟨gb1621, 4, none⟩) (Kd.R_far (p := ⟨gb1621, 3, none⟩) (Kd.R_far (p := ⟨gb1621, 2, none⟩) (Kd.R_far (p := ⟨gb1621, 1, none⟩) (Kd.R_far (p := ⟨gb1621, 0, none⟩) (Kd.R_types HO1611.out BK1621.out (by decide)) (fun _ hk => hk.2) (.int .i64 t1614)) (fun _ hk => hk.2) (.int .i64 t1615)) (fun _ hk => hk.2) (.int .i64 t1616)) (fun _ hk => hk.2) (.int .i64 t1617)) (fun _ hk => hk.2) (.slice Ao28 t1618.length co28)) (fun _ h_ => h_.1))) hb); have n1_ := Aside0.mk (Kd.R_below (by (with_reducible repeat (first | apply Kd.R_alloc | apply Kd.R_drewN | apply Kd.R_drew)); exact (Kd.R_mono (Kd.R_far (p := ⟨gb1621, 4, none⟩) (Kd.R_far (p := ⟨gb1621, 3, none⟩) (Kd.R_far (p := ⟨gb1621, 2, none⟩) (Kd.R_far (p := ⟨gb1621, 1, none⟩) (Kd.R_far (p := ⟨gb1621, 0, none⟩) (Kd.R_types HO1620.out BK1621.out (by decide)) (fun _ hk => hk.2) (.int .i64 t1614)) (fun _ hk => hk.2) (.int .i64 t1615)) (fun _ hk => hk.2) (.int .i64 t1616)) (fun _ hk => hk.2) (.int .i64 t1617)) (fun _ hk => hk.2) (.slice Ao28 t1618.length co28)) (fun _ h_ => h_.1))) hb); have n2_ := Aside0.mk (blk_below (g := gb1603) (o := .cells #[.int .i64 a0_0, .int .i64 a0_1, .int .i64 a0_2, .int .i64 a0_3, .slice A0_4 l0_4.length c0_4] 26 (0, 0)) (by (with_reducible repeat (first | refine blk_drewN ?_ _ | refine blk_drew ?_ | refine blk_alloc ?_ _)); refine blk_far ?_ NB1603_1621.out _; (with_reducible repeat (first | refine blk_drewN ?_ _ | refine blk_drew ?_ | refine blk_alloc ?_ _)); refine blk_far ?_ NB1603_1621.out _; (with_reducible repeat (first | refine blk_drewN ?_ _ | refine blk_drew ?_ | refine blk_alloc ?_ _)); refine blk_far ?_ NB1603_1621.out _; (with_reducible repeat (first | refine blk_drewN ?_ _ | refine blk_drew ?_ | refine blk_alloc ?_ _)); refine blk_far ?_ NB1603_1621.out _; (with_reducible repeat (first | refine blk_drewN ?_ _ | refine blk_drew ?_ | refine blk_alloc ?_ _)); refine blk_far ?_ NB1603_1621.out _; (with_reducible repeat (first | refine blk_drewN ?_ _ | refine blk_drew ?_ | refine blk_alloc ?_ _)); exact BK1603.out) hb); have n3_ := Aside0.mk (blk_below (g := gb1621) (o := .cells #[.int .i64 t1614, .int .i64 t1615, .int .i64 t1616, .int .i64 t1617, .slice Ao28 t1618.length co28] 30 (0, 0)) (by (with_reducible repeat (first | refine blk_drewN ?_ _ | refine blk_drew ?_ | refine blk_alloc ?_ _)); refine blk_put (cs := #[.int .i64 t1614, .int .i64 t1615, .int .i64 t1616, .int .i64 t1617, .slice none 0 0]) ?_ 4 _ rfl; (with_reducible repeat (first | refine blk_drewN ?_ _ | refine blk_drew ?_ | refine blk_alloc ?_ _)); refine blk_put (cs := #[.int .i64 t1614, .int .i64 t1615, .int .i64 t1616, .int .i64 0, .slice none 0 0]) ?_ 3 _ rfl; (with_reducible repeat (first | refine blk_drewN ?_ _ | refine blk_drew ?_ | refine blk_alloc ?_ _)); refine blk_put (cs := #[.int .i64 t1614, .int .i64 t1615, .int .i64 0, .int .i64 0, .slice none 0 0]) ?_ 2 _ rfl; (with_reducible repeat (first | refine blk_drewN ?_ _ | refine blk_drew ?_ | refine blk_alloc ?_ _)); refine blk_put (cs := #[.int .i64 t1614, .int .i64 0, .int .i64 0, .int .i64 0, .slice none 0 0]) ?_ 1 _ rfl; (with_reducible repeat (first | refine blk_drewN ?_ _ | refine blk_drew ?_ | refine blk_alloc ?_ _)); refine blk_put (cs := #[.int .i64 0, .int .i64 0, .int .i64 0, .int .i64 0, .slice none 0 0]) ?_ 0 _ rfl; (with_reducible repeat (first | refine blk_drewN ?_ _ | refine blk_drew ?_ | refine blk_alloc ?_ _)); exact BK1621.out) hb); have n4_ := Aside0.mk (below_step (by repeat (first | (with_reducible first | exact HB.out | apply below_alloc | apply pw_below_drewN | apply below_drew1 | refine below_set ?_ GE1603.out | refine below_set ?_ GE1621.out) | exact HB.out)) hb); clear HO1611; clear HO1620; clear BK1603; clear BK1621; clear HB; have HO1611 := n0_; have HO1620 := n1_; have BK1603 := n2_; have BK1621 := n3_; have HB := n4_; clear n0_ n1_ n2_ n3_ n4_; (try clear hb); (try clear hb2); (try clear hk); (try clear hi)))
     have n0_ := Aside0.mk (Kd.R_drew HO1611.out)
     have n1_ := Aside0.mk (Kd.R_drew HO1620.out)
     have n2_ := Aside0.mk (blk_drew BK1603.out)
     have n3_ := Aside0.mk (blk_drew BK1621.out)
     have n4_ := Aside0.mk (below_drew1 HB.out)
     clear HO1611
     clear HO1620
     clear BK1603
     clear BK1621
     clear HB
     have HO1611 := n0_
     have HO1620 := n1_
     have BK1603 := n2_
     have BK1621 := n3_
     have HB := n4_
     clear n0_ n1_ n2_ n3_ n4_
     refine start_ (n := 5) (S := fun w' => w'.cell? ⟨gb1621, 0, none⟩ = some (.int .i64 t1614) ∧ w'.cell? ⟨gb1621, 1, none⟩ = some (.int .i64 t1615) ∧ w'.cell? ⟨gb1621, 2, none⟩ = some (.int .i64 t1616) ∧ w'.cell? ⟨gb1621, 3, none⟩ = some (.int .i64 t1617) ∧ w'.cell? ⟨gb1621, 4, none⟩ = some (.slice Ao28 t1618.length co28) ∧ w'.cell? ⟨gb1603, 0, none⟩ = some (.int .i64 a0_0) ∧ w'.cell? ⟨gb1603, 1, none⟩ = some (.int .i64 a0_1) ∧ w'.cell? ⟨gb1603, 2, none⟩ = some (.int .i64 a0_2) ∧ w'.cell? ⟨gb1603, 3, none⟩ = some (.int .i64 a0_3) ∧ w'.cell? ⟨gb1603, 4, none⟩ = some (.slice A0_4 l0_4.length c0_4)) (ds := []) #[false, false, false, false, false] (by kernel_rfl) rfl rfl ⟨(blk_cell BK1621.out 0).trans rfl, (blk_cell BK1621.out 1).trans rfl, (blk_cell BK1621.out 2).trans rfl, (blk_cell BK1621.out 3).trans rfl, (blk_cell BK1621.out 4).trans rfl, (blk_cell BK1603.out 0).trans rfl, (blk_cell BK1603.out 1).trans rfl, (blk_cell BK1603.out 2).trans rfl, (blk_cell BK1603.out 3).trans rfl, (blk_cell BK1603.out 4).trans rfl⟩ (fun hHeld => ?_)
     generalize w29.drew = w30 at HO1611 HO1620 BK1603 BK1621 HB hHeld ⊢
     refine take_ (i := 0) (N := some 35) (v := ?_) (a' := ?_) #[true, false, false, false, false] rfl rfl (by kernel_rfl) (fun _ _ _ h => h) (Or.inl ⟨by rfl, ?_⟩) hHeld ?_ ?_
     rotate_left
     ·
      rintro w' ⟨s0, s1, s2, s3, s4, s5, s6, s7, s8, s9⟩
      go_simp
      with_reducible rfl
     rotate_left
     ·
      simp only [Act.put, List.setIfInBounds_toArray, List.set_cons_zero, List.set_cons_succ, i64_w, i32_w]
      rfl
     refine take_ (i := 1) (N := some 36) (v := ?_) (a' := ?_) #[true, true, false, false, false] rfl rfl (by kernel_rfl) (fun _ _ _ h => h) (Or.inl ⟨by rfl, ?_⟩) hHeld ?_ ?_
     rotate_left
     ·
      rintro w' ⟨s0, s1, s2, s3, s4, s5, s6, s7, s8, s9⟩
      go_simp
      with_reducible rfl
     rotate_left
     ·
      simp only [Act.put, List.setIfInBounds_toArray, List.set_cons_zero, List.set_cons_succ, i64_w, i32_w]
      rfl
     refine one_ (i := 2) (N := some 37) #[true, true, true, false, false] rfl rfl (by kernel_rfl) (by decide) (fun K hK => ?_)
     refine goes_ Try.func16 (by kernel_rfl) rfl #[.agg #[.int .i64 a0_0, .int .i64 a0_1, .int .i64 a0_2, .int .i64 a0_3, .slice A0_4 l0_4.length c0_4]] (by rfl) rfl rfl (by (try simp only [List.map_toArray, List.map_cons, List.map_nil]); first | done | rfl | (simp only [List.length_drop, List.length_take]; rfl)) ?_
     with_reducible refine (laws_toPattern.calls k a0_0 a0_1 a0_2 a0_3 _ _ l0_4 t1624 t1625 t1626 t1627 t1628 _ ?side1 ?side2 A13.out).mono ?_
     (case side1 => repeat (first | exact (Kd.C_below HR0_4.out HB.out) | (with_reducible refine Kd.C_alloc ?_ _) | (with_reducible refine Kd.C_drewN ?_ _) | (with_reducible refine Kd.C_drew ?_)))
     (case side2 => exact HC0_4.out)
     rintro e w31 ⟨v1629, rfl, ho0, hb⟩
     refine ⟨_, rfl, ?_⟩
     have n0_ := Aside0.mk (Kd.R_elder' (by (with_reducible repeat (first | apply Kd.R_alloc | apply Kd.R_drewN | apply Kd.R_drew)); exact HO1611.out) (Kd.R_base ho0) hb)
     have n1_ := Aside0.mk (Kd.R_elder' (by (with_reducible repeat (first | apply Kd.R_alloc | apply Kd.R_drewN | apply Kd.R_drew)); exact HO1620.out) (Kd.R_base ho0) hb)
     have n2_ := Aside0.mk (Kd.R_lower (Kd.R_new' (Kd.R_new' ho0 (Kd.R_lt (by (with_reducible repeat (first | apply Kd.R_alloc | apply Kd.R_drewN | apply Kd.R_drew)); exact HO1611.out))) (Kd.R_lt (by (with_reducible repeat (first | apply Kd.R_alloc | apply Kd.R_drewN | apply Kd.R_drew)); exact HO1620.out))) (below_size (by repeat (first | (with_reducible first | exact HB.out | apply below_alloc | apply pw_below_drewN | apply below_drew1 | refine below_set ?_ GE1603.out | refine below_set ?_ GE1621.out) | exact HB.out))))
     have n3_ := Aside0.mk (blk_below (g := gb1603) (o := .cells #[.int .i64 a0_0, .int .i64 a0_1, .int .i64 a0_2, .int .i64 a0_3, .slice A0_4 l0_4.length c0_4] 26 (0, 0)) (by (with_reducible repeat (first | refine blk_drewN ?_ _ | refine blk_drew ?_ | refine blk_alloc ?_ _)); exact BK1603.out) hb)
     have n4_ := Aside0.mk (blk_below (g := gb1621) (o := .cells #[.int .i64 t1614, .int .i64 t1615, .int .i64 t1616, .int .i64 t1617, .slice Ao28 t1618.length co28] 30 (0, 0)) (by (with_reducible repeat (first | refine blk_drewN ?_ _ | refine blk_drew ?_ | refine blk_alloc ?_ _)); exact BK1621.out) hb)
     have n5_ := Aside0.mk (below_step (by repeat (first | (with_reducible first | exact HB.out | apply below_alloc | apply pw_below_drewN | apply below_drew1 | refine below_set ?_ GE1603.out | refine below_set ?_ GE1621.out) | exact HB.out)) hb)
     clear HO1611
     clear HO1620
     clear BK1603
     clear BK1621
     clear HB
     have HO1611 := n0_
     have HO1620 := n1_
     have HO1630 := n2_
     have BK1603 := n3_
     have BK1621 := n4_
     have HB := n5_
     clear n0_ n1_ n2_ n3_ n4_ n5_
     (try clear hb)
     (try clear hb2)
     (try clear hk)
     (try clear hi)
     (try clear ho0)
     obtain ⟨Ao32, co32, eo32⟩ := Kd.R_slice HO1630.out
     (first | subst eo32 | (injection eo32 with f1_ f2_ f3_; have f4_ := f1_.symm; have f5_ := f3_.symm; clear f1_ f2_ f3_; subst f4_; subst f5_))
     refine hK.out _ _ ⟨(blk_cell BK1621.out 0).trans rfl, (blk_cell BK1621.out 1).trans rfl, (blk_cell BK1621.out 2).trans rfl, (blk_cell BK1621.out 3).trans rfl, (blk_cell BK1621.out 4).trans rfl, (blk_cell BK1603.out 0).trans rfl, (blk_cell BK1603.out 1).trans rfl, (blk_cell BK1603.out 2).trans rfl, (blk_cell BK1603.out 3).trans rfl, (blk_cell BK1603.out 4).trans rfl⟩ (fun hHeld => ?_)
     clear hK K
     refine norm_ (a' := ?_) ?_ ?_
     rotate_left
     ·
      show Act.put _ (some 37) _ = _
      simp only [Act.put, List.setIfInBounds_toArray, List.set_cons_zero, List.set_cons_succ, i64_w, i32_w]
      rfl
     refine one_ (i := 3) (N := some 38) #[true, true, true, true, false] rfl rfl (by kernel_rfl) (by decide) (fun K hK => ?_)
     refine goes_ Try.func18 (by kernel_rfl) rfl #[.agg #[.int .i64 t1614, .int .i64 t1615, .int .i64 t1616, .int .i64 t1617, .slice Ao28 t1618.length co28], .agg #[.int .i64 t1624, .int .i64 t1625, .int .i64 t1626, .int .i64 t1627, .slice Ao32 t1628.length co32]] (by rfl) rfl rfl (by (try simp only [List.map_toArray, List.map_cons, List.map_nil]); first | done | rfl | (simp only [List.length_drop, List.length_take]; rfl)) ?_
     with_reducible refine (laws_eqPattern.calls k t1614 t1615 t1616 t1617 _ _ t1618 t1624 t1625 t1626 t1627 _ _ t1628 true _ ?side1 ?side2 ?side3 ?side4 A14.out).mono ?_
     (case side1 => repeat (first | exact (Kd.R_reads' HO1620.out).2.2 | (with_reducible refine Kd.C_alloc ?_ _) | (with_reducible refine Kd.C_drewN ?_ _) | (with_reducible refine Kd.C_drew ?_)))
     (case side2 => exact (Kd.R_reads' HO1620.out).2.1)
     (case side3 => repeat (first | exact (Kd.R_reads' HO1630.out).2.2 | (with_reducible refine Kd.C_alloc ?_ _) | (with_reducible refine Kd.C_drewN ?_ _) | (with_reducible refine Kd.C_drew ?_)))
     (case side4 => exact (Kd.R_reads' HO1630.out).2.1)
     rintro e w33 ⟨rfl, hb⟩
     refine ⟨_, rfl, ?_⟩
     have n0_ := Aside0.mk (Kd.R_below (by (with_reducible repeat (first | apply Kd.R_alloc | apply Kd.R_drewN | apply Kd.R_drew)); exact HO1611.out) hb)
     have n1_ := Aside0.mk (Kd.R_below (by (with_reducible repeat (first | apply Kd.R_alloc | apply Kd.R_drewN | apply Kd.R_drew)); exact HO1620.out) hb)
     have n2_ := Aside0.mk (Kd.R_below (by (with_reducible repeat (first | apply Kd.R_alloc | apply Kd.R_drewN | apply Kd.R_drew)); exact HO1630.out) hb)
     have n3_ := Aside0.mk (blk_below (g := gb1603) (o := .cells #[.int .i64 a0_0, .int .i64 a0_1, .int .i64 a0_2, .int .i64 a0_3, .slice A0_4 l0_4.length c0_4] 26 (0, 0)) (by (with_reducible repeat (first | refine blk_drewN ?_ _ | refine blk_drew ?_ | refine blk_alloc ?_ _)); exact BK1603.out) hb)
     have n4_ := Aside0.mk (blk_below (g := gb1621) (o := .cells #[.int .i64 t1614, .int .i64 t1615, .int .i64 t1616, .int .i64 t1617, .slice Ao28 t1618.length co28] 30 (0, 0)) (by (with_reducible repeat (first | refine blk_drewN ?_ _ | refine blk_drew ?_ | refine blk_alloc ?_ _)); exact BK1621.out) hb)
     have n5_ := Aside0.mk (below_step (by repeat (first | (with_reducible first | exact HB.out | apply below_alloc | apply pw_below_drewN | apply below_drew1 | refine below_set ?_ GE1603.out | refine below_set ?_ GE1621.out) | exact HB.out)) hb)
     clear HO1611
     clear HO1620
     clear HO1630
     clear BK1603
     clear BK1621
     clear HB
     have HO1611 := n0_
     have HO1620 := n1_
     have HO1630 := n2_
     have BK1603 := n3_
     have BK1621 := n4_
     have HB := n5_
     clear n0_ n1_ n2_ n3_ n4_ n5_
     (try clear hb)
     (try clear hb2)
     (try clear hk)
     (try clear hi)
     refine hK.out _ _ ⟨(blk_cell BK1621.out 0).trans rfl, (blk_cell BK1621.out 1).trans rfl, (blk_cell BK1621.out 2).trans rfl, (blk_cell BK1621.out 3).trans rfl, (blk_cell BK1621.out 4).trans rfl, (blk_cell BK1603.out 0).trans rfl, (blk_cell BK1603.out 1).trans rfl, (blk_cell BK1603.out 2).trans rfl, (blk_cell BK1603.out 3).trans rfl, (blk_cell BK1603.out 4).trans rfl⟩ (fun hHeld => ?_)
     clear hK K
     refine norm_ (a' := ?_) ?_ ?_
     rotate_left
     ·
      show Act.put _ (some 38) _ = _
      simp only [Act.put, List.setIfInBounds_toArray, List.set_cons_zero, List.set_cons_succ, i64_w, i32_w]
      rfl
     refine pure_ (i := 4) (N := some 39) (v := ?_) (a' := ?_) #[true, true, true, true, true] rfl rfl (by kernel_rfl) (fun _ _ _ h => h) (Or.inl ⟨by rfl, ?_⟩) ?_ ?_
     rotate_left
     ·
      intro w'
      go_simp
      with_reducible rfl
     rotate_left
     ·
      simp only [Act.put, List.setIfInBounds_toArray, List.set_cons_zero, List.set_cons_succ, i64_w, i32_w]
      rfl
     refine done_ (by kernel_rfl) ?_
     try go_wp2
     go_ret
     exact ⟨by first | rfl | (simp [errW_none, errW_some] <;> rfl) | (simp [*, errW_none, errW_some] <;> rfl), by repeat (first | (with_reducible first | exact HB.out | apply below_alloc | apply pw_below_drewN | apply below_drew1 | refine below_set ?_ GE1603.out | refine below_set ?_ GE1621.out) | exact HB.out)⟩
    ·
     replace c15 := Bool.eq_false_iff.mpr c15
     subst c15
     have H1 : (none) = some r := by rw [if_neg (show ¬ (false = true) by decide)] at H; exact H
     clear H
     have H := H1
     clear H1
     exact absurd H (by simp)
   ·
    rw [if_neg c12] at H
    exact absurd H (by simp)
  ·
   rw [if_neg c11] at H
   exact absurd H (by simp)

end Go.Proofs.Ytomgliinndfliaa.X
