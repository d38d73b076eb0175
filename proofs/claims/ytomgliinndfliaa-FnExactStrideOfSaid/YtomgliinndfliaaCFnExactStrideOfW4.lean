/- Part of the proof of the law FnExactStrideOf: each function of the code computes what its plain function says. No condition of its own. -/
import Derived.Test.YtomgliinndfliaaCFnExactStrideOfW3
namespace Go.Proofs.Ytomgliinndfliaa.X
open Go.RowKit Go.Proofs.YtomgliinndfliaaW.PrintWords Go.Proofs.YtomgliinndfliaaW.PrintLast Go.Proofs.YtomgliinndfliaaW.PrintMore
attribute [local go_sem] max2_int min2_int max_two min_two max_three min_three max_four min_four   -- for this text's walks alone
set_option linter.unusedVariables false
set_option linter.unusedSimpArgs false

/-! ### laws_FnExactStrideOf: function 11 -/
set_option maxHeartbeats 8000000 in
set_option maxRecDepth 100000 in
theorem laws_FnExactStrideOf.calls (k : Nat) (a0_0 : Int) (a0_1 : Int) (a0_2 : Int) (a0_3 : Int) (A0_4 : Option Addr) (c0_4 : Nat) (l0_4 : List Int) (r : Bool) (w : World) (hr0_4 : Kd.C (Kd.int .i64) w A0_4 l0_4.length l0_4) (hc0_4 : l0_4.length ≤ c0_4) (h : laws_FnExactStrideOf.f k a0_0 a0_1 a0_2 a0_3 l0_4 = some r) :
  Calls Try.prog 11 #[.agg #[.int .i64 a0_0, .int .i64 a0_1, .int .i64 a0_2, .int .i64 a0_3, .slice A0_4 l0_4.length c0_4]] w fun e w' => e = .returned (.bool r) ∧ Below w.heap.size w w' := by
 have hu26 := Try.underlying26
 have hu30 := Try.underlying30
 have HR0_4 := Aside0.mk hr0_4
 have HC0_4 := Aside0.mk hc0_4
 clear hr0_4 hc0_4
 have HB := Aside0.mk (Below.refl w.heap.size w)
 have H : ((laws_szPattern.f a0_0 a0_1 a0_2 a0_3 l0_4 1048576).bind fun t1702 => (if t1702 < 0 then (some true) else ((laws_toPattern.f k a0_0 a0_1 a0_2 a0_3 l0_4).bind fun bt1703 => ((spec_StrideOf.f k bt1703.1 bt1703.2.1 bt1703.2.2.1 bt1703.2.2.2.1 bt1703.2.2.2.2).bind fun bt1710 => ((laws_toPattern.f k a0_0 a0_1 a0_2 a0_3 l0_4).bind fun bt1713 => ((impl_StrideOf.f k bt1713.1 bt1713.2.1 bt1713.2.2.1 bt1713.2.2.2.1 bt1713.2.2.2.2).bind fun bt1721 => (if bt1721.1 = bt1710.1 then (if bt1721.2.1 = bt1710.2.1 then (if bt1721.2.2 = bt1710.2.2 then ((laws_toPattern.f k a0_0 a0_1 a0_2 a0_3 l0_4).bind fun bt1724 => ((laws_eqPattern.f k bt1713.1 bt1713.2.1 bt1713.2.2.1 bt1713.2.2.2.1 bt1713.2.2.2.2 bt1724.1 bt1724.2.1 bt1724.2.2.1 bt1724.2.2.2.1 bt1724.2.2.2.2).bind fun t1731 => (if t1731 = true then (some true) else (none)))) else (none)) else (none)) else (none)))))))) = some r := h
 clear h
 replace H := Option.bind_eq_some_iff.mp H
 obtain ⟨t1702, A20, H⟩ := H
 replace H : (if t1702 < 0 then (some true) else ((laws_toPattern.f k a0_0 a0_1 a0_2 a0_3 l0_4).bind fun bt1703 => ((spec_StrideOf.f k bt1703.1 bt1703.2.1 bt1703.2.2.1 bt1703.2.2.2.1 bt1703.2.2.2.2).bind fun bt1710 => ((laws_toPattern.f k a0_0 a0_1 a0_2 a0_3 l0_4).bind fun bt1713 => ((impl_StrideOf.f k bt1713.1 bt1713.2.1 bt1713.2.2.1 bt1713.2.2.2.1 bt1713.2.2.2.2).bind fun bt1721 => (if bt1721.1 = bt1710.1 then (if bt1721.2.1 = bt1710.2.1 then (if bt1721.2.2 = bt1710.2.2 then ((laws_toPattern.f k a0_0 a0_1 a0_2 a0_3 l0_4).bind fun bt1724 => ((laws_eqPattern.f k bt1713.1 bt1713.2.1 bt1713.2.2.1 bt1713.2.2.2.1 bt1713.2.2.2.2 bt1724.1 bt1724.2.1 bt1724.2.2.1 bt1724.2.2.2.1 bt1724.2.2.2.2).bind fun t1731 => (if t1731 = true then (some true) else (none)))) else (none)) else (none)) else (none))))))) = some r := H
 have A2 := Aside0.mk A20
 clear A20
 by_cases c3 : t1702 < 0
 ·
  rw [if_pos c3] at H
  have c3b0 : decide (t1702 < 0) = true := decide_eq_true c3
  clear c3
  obtain rfl := Option.some.inj H
  go_enter Try.func11, Try.ntmps11
  go_wp2_with (first | ((with_reducible refine gate_dst (N := 1) rfl ?_); refine box_event ?hg (N := 1) ?hd (cs := #[.int .i64 a0_0, .int .i64 a0_1, .int .i64 a0_2, .int .i64 a0_3, .slice A0_4 l0_4.length c0_4]) (t := 26) ?hr ?_; (case hd => rfl); (case hg => rfl); (case hr => first | (go_simp; done) | (go_simp; rfl)); intro gb1701 hg w4 hbox hb; have n0_ := Aside0.mk (below_step (by repeat (first | (with_reducible first | exact HB.out | apply below_alloc | apply pw_below_drewN | apply below_drew1) | exact HB.out)) hb); have n1_ := Aside0.mk (hbox); have n2_ := Aside0.mk ((by rw [hg]; exact (below_size (by repeat (first | (with_reducible first | exact HB.out | apply below_alloc | apply pw_below_drewN | apply below_drew1) | exact HB.out))) : w.heap.size ≤ gb1701)); have n3_ := Aside0.mk ((by rw [hg]; exact (below_size (by repeat (first | (with_reducible first | exact HB.out | apply below_alloc | apply pw_below_drewN | apply below_drew1) | exact HB.out))) : w.heap.size ≤ gb1701)); clear HB; have HB := n0_; have BK1701 := n1_; have GW1701 := n2_; have GE1701 := n3_; clear n0_ n1_ n2_ n3_; clear hb hbox hg; have hcz5_0 : w4.cell? ⟨gb1701, 0, none⟩ = some (.int .i64 a0_0) := (blk_cell BK1701.out 0).trans rfl; have hcz5_1 : w4.cell? ⟨gb1701, 1, none⟩ = some (.int .i64 a0_1) := (blk_cell BK1701.out 1).trans rfl; have hcz5_2 : w4.cell? ⟨gb1701, 2, none⟩ = some (.int .i64 a0_2) := (blk_cell BK1701.out 2).trans rfl; have hcz5_3 : w4.cell? ⟨gb1701, 3, none⟩ = some (.int .i64 a0_3) := (blk_cell BK1701.out 3).trans rfl; have hcz5_4 : w4.cell? ⟨gb1701, 4, none⟩ = some (.slice A0_4 l0_4.length c0_4) := (blk_cell BK1701.out 4).trans rfl; have hfz5_0 := blk_frozen BK1701.out 0; have hfz5_1 := blk_frozen BK1701.out 1; have hfz5_2 := blk_frozen BK1701.out 2; have hfz5_3 := blk_frozen BK1701.out 3; have hfz5_4 := blk_frozen BK1701.out 4) | ((with_reducible refine gate_callee (f := 14) rfl ?_); refine goesL_ (some 13) rfl rfl Try.func14 (by kernel_rfl) rfl #[.agg #[.int .i64 a0_0, .int .i64 a0_1, .int .i64 a0_2, .int .i64 a0_3, .slice A0_4 l0_4.length c0_4], .int .i64 1048576] rfl (by (try simp only [List.map_toArray, List.map_cons, List.map_nil]); first | done | rfl | (simp only [List.length_drop, List.length_take]; rfl)) ?_; (with_reducible refine (laws_szPattern.calls a0_0 a0_1 a0_2 a0_3 _ _ l0_4 1048576 t1702 _ ?side1 ?side2 A2.out).mono ?_); (case side1 => repeat (first | exact (Kd.C_below HR0_4.out HB.out) | (with_reducible refine Kd.C_alloc ?_ _) | (with_reducible refine Kd.C_drewN ?_ _) | (with_reducible refine Kd.C_drew ?_))); (case side2 => exact HC0_4.out); rintro e w6 ⟨rfl, hb⟩; refine ⟨_, rfl, ?_⟩; have n0_ := Aside0.mk (blk_below (g := gb1701) (o := .cells #[.int .i64 a0_0, .int .i64 a0_1, .int .i64 a0_2, .int .i64 a0_3, .slice A0_4 l0_4.length c0_4] 26 (0, 0)) (by (with_reducible repeat (first | refine blk_drewN ?_ _ | refine blk_drew ?_ | refine blk_alloc ?_ _)); exact BK1701.out) hb); have n1_ := Aside0.mk (below_step (by repeat (first | (with_reducible first | exact HB.out | apply below_alloc | apply pw_below_drewN | apply below_drew1 | refine below_set ?_ GE1701.out) | exact HB.out)) hb); clear BK1701; clear HB; have BK1701 := n0_; have HB := n1_; clear n0_ n1_; (try clear hb); (try clear hb2); (try clear hk); (try clear hi)))
  go_ret
  exact ⟨by first | rfl | (simp [errW_none, errW_some] <;> rfl) | (simp [*, errW_none, errW_some] <;> rfl), by repeat (first | (with_reducible first | exact HB.out | apply below_alloc | apply pw_below_drewN | apply below_drew1 | refine below_set ?_ GE1701.out) | exact HB.out)⟩
 ·
  rw [if_neg c3] at H
  have c3b0 : decide (t1702 < 0) = false := decide_eq_false c3
  clear c3
  replace H := Option.bind_eq_some_iff.mp H
  obtain ⟨⟨t1703, t1704, t1705, t1706, t1707⟩, A70, H⟩ := H
  replace H : ((spec_StrideOf.f k t1703 t1704 t1705 t1706 t1707).bind fun bt1710 => ((laws_toPattern.f k a0_0 a0_1 a0_2 a0_3 l0_4).bind fun bt1713 => ((impl_StrideOf.f k bt1713.1 bt1713.2.1 bt1713.2.2.1 bt1713.2.2.2.1 bt1713.2.2.2.2).bind fun bt1721 => (if bt1721.1 = bt1710.1 then (if bt1721.2.1 = bt1710.2.1 then (if bt1721.2.2 = bt1710.2.2 then ((laws_toPattern.f k a0_0 a0_1 a0_2 a0_3 l0_4).bind fun bt1724 => ((laws_eqPattern.f k bt1713.1 bt1713.2.1 bt1713.2.2.1 bt1713.2.2.2.1 bt1713.2.2.2.2 bt1724.1 bt1724.2.1 bt1724.2.2.1 bt1724.2.2.2.1 bt1724.2.2.2.2).bind fun t1731 => (if t1731 = true then (some true) else (none)))) else (none)) else (none)) else (none))))) = some r := H
  have A7 := Aside0.mk A70
  clear A70
  replace H := Option.bind_eq_some_iff.mp H
  obtain ⟨⟨t1710, t1711, t1712⟩, A80, H⟩ := H
  replace H : ((laws_toPattern.f k a0_0 a0_1 a0_2 a0_3 l0_4).bind fun bt1713 => ((impl_StrideOf.f k bt1713.1 bt1713.2.1 bt1713.2.2.1 bt1713.2.2.2.1 bt1713.2.2.2.2).bind fun bt1721 => (if bt1721.1 = t1710 then (if bt1721.2.1 = t1711 then (if bt1721.2.2 = t1712 then ((laws_toPattern.f k a0_0 a0_1 a0_2 a0_3 l0_4).bind fun bt1724 => ((laws_eqPattern.f k bt1713.1 bt1713.2.1 bt1713.2.2.1 bt1713.2.2.2.1 bt1713.2.2.2.2 bt1724.1 bt1724.2.1 bt1724.2.2.1 bt1724.2.2.2.1 bt1724.2.2.2.2).bind fun t1731 => (if t1731 = true then (some true) else (none)))) else (none)) else (none)) else (none)))) = some r := H
  have A8 := Aside0.mk A80
  clear A80
  replace H := Option.bind_eq_some_iff.mp H
  obtain ⟨⟨t1713, t1714, t1715, t1716, t1717⟩, A90, H⟩ := H
  replace H : ((impl_StrideOf.f k t1713 t1714 t1715 t1716 t1717).bind fun bt1721 => (if bt1721.1 = t1710 then (if bt1721.2.1 = t1711 then (if bt1721.2.2 = t1712 then ((laws_toPattern.f k a0_0 a0_1 a0_2 a0_3 l0_4).bind fun bt1724 => ((laws_eqPattern.f k t1713 t1714 t1715 t1716 t1717 bt1724.1 bt1724.2.1 bt1724.2.2.1 bt1724.2.2.2.1 bt1724.2.2.2.2).bind fun t1731 => (if t1731 = true then (some true) else (none)))) else (none)) else (none)) else (none))) = some r := H
  have A9 := Aside0.mk A90
  clear A90
  replace H := Option.bind_eq_some_iff.mp H
  obtain ⟨⟨t1721, t1722, t1723⟩, A100, H⟩ := H
  replace H : (if t1721 = t1710 then (if t1722 = t1711 then (if t1723 = t1712 then ((laws_toPattern.f k a0_0 a0_1 a0_2 a0_3 l0_4).bind fun bt1724 => ((laws_eqPattern.f k t1713 t1714 t1715 t1716 t1717 bt1724.1 bt1724.2.1 bt1724.2.2.1 bt1724.2.2.2.1 bt1724.2.2.2.2).bind fun t1731 => (if t1731 = true then (some true) else (none)))) else (none)) else (none)) else (none)) = some r := H
  have A10 := Aside0.mk A100
  clear A100
  by_cases c11 : t1721 = t1710
  ·
   rw [if_pos c11] at H
   have c11b0 : (t1721 == t1710) = true := beq_iff_eq.mpr c11
   have c11b1 : (t1721 != t1710) = false := bne_eq_false_iff_eq.mpr c11
   clear c11
   by_cases c12 : t1722 = t1711
   ·
    rw [if_pos c12] at H
    have c12b0 : (t1722 == t1711) = true := beq_iff_eq.mpr c12
    have c12b1 : (t1722 != t1711) = false := bne_eq_false_iff_eq.mpr c12
    clear c12
    by_cases c13 : t1723 = t1712
    ·
     rw [if_pos c13] at H
     have c13b0 : (t1723 == t1712) = true := beq_iff_eq.mpr c13
     have c13b1 : (t1723 != t1712) = false := bne_eq_false_iff_eq.mpr c13
     clear c13
     replace H := Option.bind_eq_some_iff.mp H
     obtain ⟨⟨t1724, t1725, t1726, t1727, t1728⟩, A140, H⟩ := H
     replace H : ((laws_eqPattern.f k t1713 t1714 t1715 t1716 t1717 t1724 t1725 t1726 t1727 t1728).bind fun t1731 => (if t1731 = true then (some true) else (none))) = some r := H
     have A14 := Aside0.mk A140
     clear A140
     replace H := Option.bind_eq_some_iff.mp H
     obtain ⟨t1731, A150, H⟩ := H
     replace H : (if t1731 = true then (some true) else (none)) = some r := H
     have A15 := Aside0.mk A150
     clear A150
     by_cases c16 : t1731 = true
     ·
      subst c16
      have H1 : (some true) = some r := by rw [if_pos rfl] at H; exact H
      clear H
      have H := H1
      clear H1
      obtain rfl := Option.some.inj H
      go_enter Try.func11, Try.ntmps11
      try go_wp2_with (first | ((with_reducible refine gate_dst (N := 1) rfl ?_); refine box_event ?hg (N := 1) ?hd (cs := #[.int .i64 a0_0, .int .i64 a0_1, .int .i64 a0_2, .int .i64 a0_3, .slice A0_4 l0_4.length c0_4]) (t := 26) ?hr ?_; (case hd => rfl); (case hg => rfl); (case hr => first | (go_simp; done) | (go_simp; rfl)); intro gb1701 hg w17 hbox hb; have n0_ := Aside0.mk (below_step (by repeat (first | (with_reducible first | exact HB.out | apply below_alloc | apply pw_below_drewN | apply below_drew1) | exact HB.out)) hb); have n1_ := Aside0.mk (hbox); have n2_ := Aside0.mk ((by rw [hg]; exact (below_size (by repeat (first | (with_reducible first | exact HB.out | apply below_alloc | apply pw_below_drewN | apply below_drew1) | exact HB.out))) : w.heap.size ≤ gb1701)); have n3_ := Aside0.mk ((by rw [hg]; exact (below_size (by repeat (first | (with_reducible first | exact HB.out | apply below_alloc | apply pw_below_drewN | apply below_drew1) | exact HB.out))) : w.heap.size ≤ gb1701)); clear HB; have HB := n0_; have BK1701 := n1_; have GW1701 := n2_; have GE1701 := n3_; clear n0_ n1_ n2_ n3_; clear hb hbox hg; have hcz18_0 : w17.cell? ⟨gb1701, 0, none⟩ = some (.int .i64 a0_0) := (blk_cell BK1701.out 0).trans rfl; have hcz18_1 : w17.cell? ⟨gb1701, 1, none⟩ = some (.int .i64 a0_1) := (blk_cell BK1701.out 1).trans rfl; have hcz18_2 : w17.cell? ⟨gb1701, 2, none⟩ = some (.int .i64 a0_2) := (blk_cell BK1701.out 2).trans rfl; have hcz18_3 : w17.cell? ⟨gb1701, 3, none⟩ = some (.int .i64 a0_3) := (blk_cell BK1701.out 3).trans rfl; have hcz18_4 : w17.cell? ⟨gb1701, 4, none⟩ = some (.slice A0_4 l0_4.length c0_4) := (blk_cell BK1701.out 4).trans rfl; have hfz18_0 := blk_frozen BK1701.out 0; have hfz18_1 := blk_frozen BK1701.out 1; have hfz18_2 := blk_frozen BK1701.out 2; have hfz18_3 := blk_frozen BK1701.out 3; have hfz18_4 := blk_frozen BK1701.out 4) | ((with_reducible refine gate_callee (f := 14) rfl ?_); refine goesL_ (some 13) rfl rfl Try.func14 (by kernel_rfl) rfl #[.agg #[.int .i64 a0_0, .int .i64 a0_1, .int .i64 a0_2, .int .i64 a0_3, .slice A0_4 l0_4.length c0_4], .int .i64 1048576] rfl (by (try simp only [List.map_toArray, List.map_cons, List.map_nil]); first | done | rfl | (simp only [List.length_drop, List.length_take]; rfl)) ?_; (with_reducible refine (laws_szPattern.calls a0_0 a0_1 a0_2 a0_3 _ _ l0_4 1048576 t1702 _ ?side1 ?side2 A2.out).mono ?_); (case side1 => repeat (first | exact (Kd.C_below HR0_4.out HB.out) | (with_reducible refine Kd.C_alloc ?_ _) | (with_reducible refine Kd.C_drewN ?_ _) | (with_reducible refine Kd.C_drew ?_))); (case side2 => exact HC0_4.out); rintro e w19 ⟨rfl, hb⟩; refine ⟨_, rfl, ?_⟩; have n0_ := Aside0.mk (blk_below (g := gb1701) (o := .cells #[.int .i64 a0_0, .int .i64 a0_1, .int .i64 a0_2, .int .i64 a0_3, .slice A0_4 l0_4.length c0_4] 26 (0, 0)) (by (with_reducible repeat (first | refine blk_drewN ?_ _ | refine blk_drew ?_ | refine blk_alloc ?_ _)); exact BK1701.out) hb); have n1_ := Aside0.mk (below_step (by repeat (first | (with_reducible first | exact HB.out | apply below_alloc | apply pw_below_drewN | apply below_drew1 | refine below_set ?_ GE1701.out) | exact HB.out)) hb); clear BK1701; clear HB; have BK1701 := n0_; have HB := n1_; clear n0_ n1_; (try clear hb); (try clear hb2); (try clear hk); (try clear hi); have hcz20_0 : w19.cell? ⟨gb1701, 0, none⟩ = some (.int .i64 a0_0) := (blk_cell BK1701.out 0).trans rfl; have hcz20_1 : w19.cell? ⟨gb1701, 1, none⟩ = some (.int .i64 a0_1) := (blk_cell BK1701.out 1).trans rfl; have hcz20_2 : w19.cell? ⟨gb1701, 2, none⟩ = some (.int .i64 a0_2) := (blk_cell BK1701.out 2).trans rfl; have hcz20_3 : w19.cell? ⟨gb1701, 3, none⟩ = some (.int .i64 a0_3) := (blk_cell BK1701.out 3).trans rfl; have hcz20_4 : w19.cell? ⟨gb1701, 4, none⟩ = some (.slice A0_4 l0_4.length c0_4) := (blk_cell BK1701.out 4).trans rfl; have hfz20_0 := blk_frozen BK1701.out 0; have hfz20_1 := blk_frozen BK1701.out 1; have hfz20_2 := blk_frozen BK1701.out 2; have hfz20_3 := blk_frozen BK1701.out 3; have hfz20_4 := blk_frozen BK1701.out 4) | ((with_reducible refine gate_callee (f := 16) rfl ?_); refine goesL_ (some 18) rfl rfl Try.func16 (by kernel_rfl) rfl #[.agg #[.int .i64 a0_0, .int .i64 a0_1, .int .i64 a0_2, .int .i64 a0_3, .slice A0_4 l0_4.length c0_4]] rfl (by (try simp only [List.map_toArray, List.map_cons, List.map_nil]); first | done | rfl | (simp only [List.length_drop, List.length_take]; rfl)) ?_; (with_reducible refine (laws_toPattern.calls k a0_0 a0_1 a0_2 a0_3 _ _ l0_4 t1703 t1704 t1705 t1706 t1707 _ ?side1 ?side2 A7.out).mono ?_); (case side1 => repeat (first | exact (Kd.C_below HR0_4.out HB.out) | (with_reducible refine Kd.C_alloc ?_ _) | (with_reducible refine Kd.C_drewN ?_ _) | (with_reducible refine Kd.C_drew ?_))); (case side2 => exact HC0_4.out); rintro e w21 ⟨v1708, rfl, ho0, hb⟩; refine ⟨_, rfl, ?_⟩; have n0_ := Aside0.mk (Kd.R_lower ho0 (below_size (by repeat (first | (with_reducible first | exact HB.out | apply below_alloc | apply pw_below_drewN | apply below_drew1 | refine below_set ?_ GE1701.out) | exact HB.out)))); have n1_ := Aside0.mk (blk_below (g := gb1701) (o := .cells #[.int .i64 a0_0, .int .i64 a0_1, .int .i64 a0_2, .int .i64 a0_3, .slice A0_4 l0_4.length c0_4] 26 (0, 0)) (by (with_reducible repeat (first | refine blk_drewN ?_ _ | refine blk_drew ?_ | refine blk_alloc ?_ _)); exact BK1701.out) hb); have n2_ := Aside0.mk (below_step (by repeat (first | (with_reducible first | exact HB.out | apply below_alloc | apply pw_below_drewN | apply below_drew1 | refine below_set ?_ GE1701.out) | exact HB.out)) hb); clear BK1701; clear HB; have HO1709 := n0_; have BK1701 := n1_; have HB := n2_; clear n0_ n1_ n2_; (try clear hb); (try clear hb2); (try clear hk); (try clear hi); (try clear ho0); obtain ⟨Ao22, co22, eo22⟩ := Kd.R_slice HO1709.out; subst eo22) | ((with_reducible refine gate_callee (f := 50) rfl ?_); refine goesL_ (some 19) rfl rfl Try.func50 (by kernel_rfl) rfl #[.agg #[.int .i64 t1703, .int .i64 t1704, .int .i64 t1705, .int .i64 t1706, .slice Ao22 t1707.length co22]] rfl (by (try simp only [List.map_toArray, List.map_cons, List.map_nil]); first | done | rfl | (simp only [List.length_drop, List.length_take]; rfl)) ?_; (with_reducible refine (spec_StrideOf.calls k t1703 t1704 t1705 t1706 _ _ t1707 t1710 t1711 t1712 _ ?side1 ?side2 A8.out).mono ?_); (case side1 => repeat (first | exact (Kd.R_reads' HO1709.out).2.2 | (with_reducible refine Kd.C_alloc ?_ _) | (with_reducible refine Kd.C_drewN ?_ _) | (with_reducible refine Kd.C_drew ?_))); (case side2 => exact (Kd.R_reads' HO1709.out).2.1); rintro e w23 ⟨rfl, hb⟩; refine ⟨_, rfl, ?_⟩; have n0_ := Aside0.mk (Kd.R_below (by (with_reducible repeat (first | apply Kd.R_alloc | apply Kd.R_drewN | apply Kd.R_drew)); exact HO1709.out) hb); have n1_ := Aside0.mk (blk_below (g := gb1701) (o := .cells #[.int .i64 a0_0, .int .i64 a0_1, .int .i64 a0_2, .int .i64 a0_3, .slice A0_4 l0_4.length c0_4] 26 (0, 0)) (by (with_reducible repeat (first | refine blk_drewN ?_ _ | refine blk_drew ?_ | refine blk_alloc ?_ _)); exact BK1701.out) hb); have n2_ := Aside0.mk (below_step (by repeat (first | (with_reducible first | exact HB.out | apply below_alloc | apply pw_below_drewN | apply below_drew1 | refine below_set ?_ GE1701.out) | exact HB.out)) hb); clear HO1709; clear BK1701; clear HB; have HO1709 := n0_; have BK1701 := n1_; have HB := n2_; clear n0_ n1_ n2_; (try clear hb); (try clear hb2); (try clear hk); (try clear hi); have hcz24_0 : w23.cell? ⟨gb1701, 0, none⟩ = some (.int .i64 a0_0) := (blk_cell BK1701.out 0).trans rfl; have hcz24_1 : w23.cell? ⟨gb1701, 1, none⟩ = some (.int .i64 a0_1) := (blk_cell BK1701.out 1).trans rfl; have hcz24_2 : w23.cell? ⟨gb1701, 2, none⟩ = some (.int .i64 a0_2) := (blk_cell BK1701.out 2).trans rfl; have hcz24_3 : w23.cell? ⟨gb1701, 3, none⟩ = some (.int .i64 a0_3) := (blk_cell BK1701.out 3).trans rfl; have hcz24_4 : w23.cell? ⟨gb1701, 4, none⟩ = some (.slice A0_4 l0_4.length c0_4) := (blk_cell BK1701.out 4).trans rfl; have hfz24_0 := blk_frozen BK1701.out 0; have hfz24_1 := blk_frozen BK1701.out 1; have hfz24_2 := blk_frozen BK1701.out 2; have hfz24_3 := blk_frozen BK1701.out 3; have hfz24_4 := blk_frozen BK1701.out 4) | ((with_reducible refine gate_callee (f := 16) rfl ?_); refine goesL_ (some 24) rfl rfl Try.func16 (by kernel_rfl) rfl #[.agg #[.int .i64 a0_0, .int .i64 a0_1, .int .i64 a0_2, .int .i64 a0_3, .slice A0_4 l0_4.length c0_4]] rfl (by (try simp only [List.map_toArray, List.map_cons, List.map_nil]); first | done | rfl | (simp only [List.length_drop, List.length_take]; rfl)) ?_; (with_reducible refine (laws_toPattern.calls k a0_0 a0_1 a0_2 a0_3 _ _ l0_4 t1713 t1714 t1715 t1716 t1717 _ ?side1 ?side2 A9.out).mono ?_); (case side1 => repeat (first | exact (Kd.C_below HR0_4.out HB.out) | (with_reducible refine Kd.C_alloc ?_ _) | (with_reducible refine Kd.C_drewN ?_ _) | (with_reducible refine Kd.C_drew ?_))); (case side2 => exact HC0_4.out); rintro e w25 ⟨v1718, rfl, ho0, hb⟩; refine ⟨_, rfl, ?_⟩; have n0_ := Aside0.mk (Kd.R_elder' (by (with_reducible repeat (first | apply Kd.R_alloc | apply Kd.R_drewN | apply Kd.R_drew)); exact HO1709.out) (Kd.R_base ho0) hb); have n1_ := Aside0.mk (Kd.R_lower (Kd.R_new' ho0 (Kd.R_lt (by (with_reducible repeat (first | apply Kd.R_alloc | apply Kd.R_drewN | apply Kd.R_drew)); exact HO1709.out))) (below_size (by repeat (first | (with_reducible first | exact HB.out | apply below_alloc | apply pw_below_drewN | apply below_drew1 | refine below_set ?_ GE1701.out) | exact HB.out)))); have n2_ := Aside0.mk (blk_below (g := gb1701) (o := .cells #[.int .i64 a0_0, .int .i64 a0_1, .int .i64 a0_2, .int .i64 a0_3, .slice A0_4 l0_4.length c0_4] 26 (0, 0)) (by (with_reducible repeat (first | refine blk_drewN ?_ _ | refine blk_drew ?_ | refine blk_alloc ?_ _)); exact BK1701.out) hb); have n3_ := Aside0.mk (below_step (by repeat (first | (with_reducible first | exact HB.out | apply below_alloc | apply pw_below_drewN | apply below_drew1 | refine below_set ?_ GE1701.out) | exact HB.out)) hb); clear HO1709; clear BK1701; clear HB; have HO1709 := n0_; have HO1719 := n1_; have BK1701 := n2_; have HB := n3_; clear n0_ n1_ n2_ n3_; (try clear hb); (try clear hb2); (try clear hk); (try clear hi); (try clear ho0)) | ((with_reducible refine gate_dst (N := 7) rfl ?_); refine box_event ?hg (N := 7) ?hd (cs := #[.int .i64 0, .int .i64 0, .int .i64 0, .int .i64 0, .slice none 0 0]) (t := 30) ?hr ?_; (case hd => rfl); (case hg => rfl); (case hr => first | (go_simp; done) | (go_simp; rfl)); intro gb1720 hg w26 hbox hb; have n0_ := Aside0.mk (Kd.R_below (by (with_reducible repeat (first | apply Kd.R_alloc | apply Kd.R_drewN | apply Kd.R_drew)); exact HO1709.out) hb); have n1_ := Aside0.mk (Kd.R_below (by (with_reducible repeat (first | apply Kd.R_alloc | apply Kd.R_drewN | apply Kd.R_drew)); exact HO1719.out) hb); have n2_ := Aside0.mk (blk_below (g := gb1701) (o := .cells #[.int .i64 a0_0, .int .i64 a0_1, .int .i64 a0_2, .int .i64 a0_3, .slice A0_4 l0_4.length c0_4] 26 (0, 0)) (by (with_reducible repeat (first | refine blk_drewN ?_ _ | refine blk_drew ?_ | refine blk_alloc ?_ _)); exact BK1701.out) hb); have n3_ := Aside0.mk (below_step (by repeat (first | (with_reducible first | exact HB.out | apply below_alloc | apply pw_below_drewN | apply below_drew1 | refine below_set ?_ GE1701.out) | exact HB.out)) hb); have n4_ := Aside0.mk (hbox); have n5_ := Aside0.mk ((by rw [hg]; exact (below_size (by repeat (first | (with_reducible first | exact HB.out | apply below_alloc | apply pw_below_drewN | apply below_drew1 | refine below_set ?_ GE1701.out) | exact HB.out))) : w.heap.size ≤ gb1720)); have n6_ := Aside0.mk ((by rw [hg]; exact (below_size (by repeat (first | (with_reducible first | exact HB.out | apply below_alloc | apply pw_below_drewN | apply below_drew1 | refine below_set ?_ GE1701.out) | exact HB.out))) : w.heap.size ≤ gb1720)); have n7_ := Aside0.mk ((by rw [hg]; exact Nat.ne_of_lt (blk_lt (g := gb1701) (o := .cells #[.int .i64 a0_0, .int .i64 a0_1, .int .i64 a0_2, .int .i64 a0_3, .slice A0_4 l0_4.length c0_4] 26 (0, 0)) (by (with_reducible repeat (first | refine blk_drewN ?_ _ | refine blk_drew ?_ | refine blk_alloc ?_ _)); exact BK1701.out)) : gb1701 ≠ gb1720)); have n8_ := Aside0.mk ((by rw [hg]; exact Nat.ne_of_gt (blk_lt (g := gb1701) (o := .cells #[.int .i64 a0_0, .int .i64 a0_1, .int .i64 a0_2, .int .i64 a0_3, .slice A0_4 l0_4.length c0_4] 26 (0, 0)) (by (with_reducible repeat (first | refine blk_drewN ?_ _ | refine blk_drew ?_ | refine blk_alloc ?_ _)); exact BK1701.out)) : gb1720 ≠ gb1701)); clear HO1709; clear HO1719; clear BK1701; clear HB; have HO1709 := n0_; have HO1719 := n1_; have BK1701 := n2_; have HB := n3_; have BK1720 := n4_; have GW1720 := n5_; have GE1720 := n6_; have NB1701_1720 := n7_; have NB1720_1701 := n8_; clear n0_ n1_ n2_ n3_ n4_ n5_ n6_ n7_ n8_; clear hb hbox hg; have hnb27 := NB1720_1701.out; have hnc27 := NB1701_1720.out; have hcz28_0 : w26.cell? ⟨gb1720, 0, none⟩ = some (.int .i64 0) := (blk_cell BK1720.out 0).trans rfl; have hcz28_1 : w26.cell? ⟨gb1720, 1, none⟩ = some (.int .i64 0) := (blk_cell BK1720.out 1).trans rfl; have hcz28_2 : w26.cell? ⟨gb1720, 2, none⟩ = some (.int .i64 0) := (blk_cell BK1720.out 2).trans rfl; have hcz28_3 : w26.cell? ⟨gb1720, 3, none⟩ = some (.int .i64 0) := (blk_cell BK1720.out 3).trans rfl; have hcz28_4 : w26.cell? ⟨gb1720, 4, none⟩ = some (.slice none 0 0) := (blk_cell BK1720.out 4).trans rfl; have hfz28_0 := blk_frozen BK1720.out 0; have hfz28_1 := blk_frozen BK1720.out 1; have hfz28_2 := blk_frozen BK1720.out 2; have hfz28_3 := blk_frozen BK1720.out 3; have hfz28_4 := blk_frozen BK1720.out 4; obtain ⟨Ao29, co29, eo29⟩ := Kd.R_slice HO1719.out; subst eo29) | ((with_reducible refine gate_callee (f := 51) rfl ?_); refine goesL_ (some 27) rfl rfl Try.func51 (by kernel_rfl) rfl #[.agg #[.int .i64 t1713, .int .i64 t1714, .int .i64 t1715, .int .i64 t1716, .slice Ao29 t1717.length co29]] rfl (by (try simp only [List.map_toArray, List.map_cons, List.map_nil]); first | done | rfl | (simp only [List.length_drop, List.length_take]; rfl)) ?_; (with_reducible refine (impl_StrideOf.calls k t1713 t1714 t1715 t1716 _ _ t1717 t1721 t1722 t1723 _ ?side1 ?side2 A10.out).mono ?_); (case side1 => refine (Kd.R_reads' (e := 2) (base := w.heap.size) (ok := fun k_ => (True ∧ some k_ ≠ (.slice Ao22 t1707.length co22 : Value).ownBlock)) (n := t1717.length) (c := co29) ?_).2.2; exact (by (with_reducible repeat (first | apply Kd.R_alloc | apply Kd.R_drewN | apply Kd.R_drew)); exact (Kd.R_mono (Kd.R_far (p := ⟨gb1720, 4, none⟩) (Kd.R_far (p := ⟨gb1720, 3, none⟩) (Kd.R_far (p := ⟨gb1720, 2, none⟩) (Kd.R_far (p := ⟨gb1720, 1, none⟩) (Kd.R_far (p := ⟨gb1720, 0, none⟩) (Kd.R_types HO1719.out BK1720.out (by decide)) (fun _ hk => hk.2) (.int .i64 t1713)) (fun _ hk => hk.2) (.int .i64 t1714)) (fun _ hk => hk.2) (.int .i64 t1715)) (fun _ hk => hk.2) (.int .i64 t1716)) (fun _ hk => hk.2) (.slice Ao29 t1717.length co29)) (fun _ h_ => h_.1)))); (case side2 => exact (Kd.R_reads' HO1719.out).2.1); rintro e w30 ⟨rfl, hb⟩; refine ⟨_, rfl, ?_⟩; have n0_ := Aside0.mk (Kd.R_below (by (with_reducible repeat (first | apply Kd.R_alloc | apply Kd.R_drewN | apply Kd.R_drew)); exact (Kd.R_mono (Kd.R_far (p := ⟨gb1720, 4, none⟩) (Kd.R_far (p := ⟨gb1720, 3, none⟩) (Kd.R_far (p := ⟨gb1720, 2, none⟩) (Kd.R_far (p := ⟨gb1720, 1, none⟩) (Kd.R_far (p := ⟨gb1720, 0, none⟩) (Kd.R_types HO1709.out BK1720.out (by decide)) (fun _ hk => hk.2) (.int .i64 t1713)) (fun _ hk => hk.2) (.int .i64 t1714)) (fun _ hk => hk.2) (.int .i64 t1715)) (fun _ hk => hk.2) (.int .i64 t1716)) (fun _ hk => hk.2) (.slice Ao29 t1717.length co29)) (fun _ h_ => h_.1))) hb); have n1_ := Aside0.mk (Kd.R_below (by (with_reducible repeat (first | apply Kd.R_alloc | apply Kd.R_drewN | apply Kd.R_drew)); exact (Kd.R_mono (Kd.R_far (p := ⟨gb1720, 4, none⟩) (Kd.R_far (p := ⟨gb1720, 3, none⟩) (Kd.R_far (p := ⟨gb1720, 2, none⟩) (Kd.R_far (p := ⟨gb1720, 1, none⟩) (Kd.R_far (p := ⟨gb1720, 0, none⟩) (Kd.R_types HO1719.out BK1720.out (by decide)) (fun _ hk => hk.2) (.int .i64 t1713)) (fun _ hk => hk.2) (.int .i64 t1714)) (fun _ hk => hk.2) (.int .i64 t1715)) (fun _ hk => hk.2) (.int .i64 t1716)) (fun _ hk => hk.2) (.slice Ao29 t1717.length co29)) (fun _ h_ => h_.1))) hb); have n2_ := Aside0.mk (blk_below (g := gb1701) (o := .cells #[.int .i64 a0_0, .int .i64 a0_1, .int .i64 a0_2, .int .i64 a0_3, .slice A0_4 l0_4.length c0_4] 26 (0, 0)) (by (with_reducible repeat (first | refine blk_drewN ?_ _ | refine blk_drew ?_ | refine blk_alloc ?_ _)); refine blk_far ?_ NB1701_1720.out _; (with_reducible repeat (first | refine blk_drewN ?_ _ | refine blk_drew ?_ | refine blk_alloc ?_ _)); refine blk_far ?_ NB1701_1720.out _; (with_reducible repeat (first | refine blk_drewN ?_ _ | refine blk_drew ?_ | refine blk_alloc ?_ _)); refine blk_far ?_ NB1701_1720.out _; (with_reducible repeat (first | refine blk_drewN ?_ _ | refine blk_drew ?_ | refine blk_alloc ?_ _)); refine blk_far ?_ NB1701_1720.out _; (with_reducible repeat (first | refine blk_drewN ?_ _ | refine blk_drew ?_ | refine blk_alloc ?_ _)); refine blk_far ?_ NB1701_1720.out _; (with_reducible repeat (first | refine blk_drewN ?_ _ | refine blk_drew ?_ | refine blk_alloc ?_ _)); exact BK1701.out) hb); have n3_ := Aside0.mk (blk_below (g := gb1720) (o := .cells #[.int .i64 t1713, .int .i64 t1714, .int .i64 t1715, .int .i64 t1716, .slice Ao29 t1717.length co29] 30 (0, 0)) (by (with_reducible repeat (first | refine blk_drewN ?_ _ | refine blk_drew ?_ | refine blk_alloc ?_ _)); refine blk_put (cs := #[.int .i64 t1713, .int .i64 t1714, .int .i64 t1715, .int .i64 t1716, .slice none 0 0]) ?_ 4 _ rfl; (with_reducible repeat (first | refine blk_drewN ?_ _ | refine blk_drew ?_ | refine blk_alloc ?_ _)); refine blk_put (cs := #[.int .i64 t1713, .int .i64 t1714, .int .i64 t1715, .int .i64 0, .slice none 0 0]) ?_ 3 _ rfl; (with_reducible repeat (first | refine blk_drewN ?_ _ | refine blk_drew ?_ | refine blk_alloc ?_ _)); refine blk_put (cs := #[.int .i64 t1713, .int .i64 t1714, .int .i64 0, .int .i64 0, .slice none 0 0]) ?_ 2 _ rfl; (with_reducible repeat (first | refine blk_drewN ?_ _ | refine blk_drew ?_ | refine blk_alloc ?_ _)); refine blk_put (cs := #[.int .i64 t1713, .int .i64 0, .int .i64 0, .int .i64 0, .slice none 0 0]) ?_ 1 _ rfl; (with_reducible repeat (first | refine blk_drewN ?_ _ | refine blk_drew ?_ | refine blk_alloc ?_ _)); refine blk_put (cs := #[.int .i64 0, .int .i64 0, .int .i64 0, .int .i64 0, .slice none 0 0]) ?_ 0 _ rfl; (with_reducible repeat (first | refine blk_drewN ?_ _ | refine blk_drew ?_ | refine blk_alloc ?_ _)); exact BK1720.out) hb); have n4_ := Aside0.mk (below_step (by repeat (first | (with_reducible first | exact HB.out | apply below_alloc | apply pw_below_drewN | apply below_drew1 | refine below_set ?_ GE1701.out | refine below_set ?_ GE1720.out) | exact HB.out)) hb); clear HO1709; clear HO1719; clear BK1701; clear BK1720; clear HB; have HO1709 := n0_; have HO1719 := n1_; have BK1701 := n2_; have BK1720 := n3_; have HB := n4_; clear n0_ n1_ n2_ n3_ n4_; (try clear hb); (try clear hb2); (try clear hk); (try clear hi)))
      have n0_ := Aside0.mk (Kd.R_drew HO1709.out)
      have n1_ := Aside0.mk (Kd.R_drew HO1719.out)
      have n2_ := Aside0.mk (blk_drew BK1701.out)
      have n3_ := Aside0.mk (blk_drew BK1720.out)
      have n4_ := Aside0.mk (below_drew1 HB.out)
      clear HO1709
      clear HO1719
      clear BK1701
      clear BK1720
      clear HB
      have HO1709 := n0_
      have HO1719 := n1_
      have BK1701 := n2_
      have BK1720 := n3_
      have HB := n4_
      clear n0_ n1_ n2_ n3_ n4_
      refine start_ (n := 5) (S := fun w' => w'.cell? ⟨gb1720, 0, none⟩ = some (.int .i64 t1713) ∧ w'.cell? ⟨gb1720, 1, none⟩ = some (.int .i64 t1714) ∧ w'.cell? ⟨gb1720, 2, none⟩ = some (.int .i64 t1715) ∧ w'.cell? ⟨gb1720, 3, none⟩ = some (.int .i64 t1716) ∧ w'.cell? ⟨gb1720, 4, none⟩ = some (.slice Ao29 t1717.length co29) ∧ w'.cell? ⟨gb1701, 0, none⟩ = some (.int .i64 a0_0) ∧ w'.cell? ⟨gb1701, 1, none⟩ = some (.int .i64 a0_1) ∧ w'.cell? ⟨gb1701, 2, none⟩ = some (.int .i64 a0_2) ∧ w'.cell? ⟨gb1701, 3, none⟩ = some (.int .i64 a0_3) ∧ w'.cell? ⟨gb1701, 4, none⟩ = some (.slice A0_4 l0_4.length c0_4)) (ds := []) #[false, false, false, false, false] (by kernel_rfl) rfl rfl ⟨(blk_cell BK1720.out 0).trans rfl, (blk_cell BK1720.out 1).trans rfl, (blk_cell BK1720.out 2).trans rfl, (blk_cell BK1720.out 3).trans rfl, (blk_cell BK1720.out 4).trans rfl, (blk_cell BK1701.out 0).trans rfl, (blk_cell BK1701.out 1).trans rfl, (blk_cell BK1701.out 2).trans rfl, (blk_cell BK1701.out 3).trans rfl, (blk_cell BK1701.out 4).trans rfl⟩ (fun hHeld => ?_)
      generalize w30.drew = w31 at HO1709 HO1719 BK1701 BK1720 HB hHeld ⊢
      refine take_ (i := 0) (N := some 44) (v := ?_) (a' := ?_) #[true, false, false, false, false] rfl rfl (by kernel_rfl) (fun _ _ _ h => h) (Or.inl ⟨by rfl, ?_⟩) hHeld ?_ ?_
      rotate_left
      ·
       rintro w' ⟨s0, s1, s2, s3, s4, s5, s6, s7, s8, s9⟩
       go_simp
       with_reducible rfl
      rotate_left
      ·
       simp only [Act.put, List.setIfInBounds_toArray, List.set_cons_zero, List.set_cons_succ, i64_w, i32_w]
       rfl
      refine take_ (i := 1) (N := some 45) (v := ?_) (a' := ?_) #[true, true, false, false, false] rfl rfl (by kernel_rfl) (fun _ _ _ h => h) (Or.inl ⟨by rfl, ?_⟩) hHeld ?_ ?_
      rotate_left
      ·
       rintro w' ⟨s0, s1, s2, s3, s4, s5, s6, s7, s8, s9⟩
       go_simp
       with_reducible rfl
      rotate_left
      ·
       simp only [Act.put, List.setIfInBounds_toArray, List.set_cons_zero, List.set_cons_succ, i64_w, i32_w]
       rfl
      refine one_ (i := 2) (N := some 46) #[true, true, true, false, false] rfl rfl (by kernel_rfl) (by decide) (fun K hK => ?_)
      refine goes_ Try.func16 (by kernel_rfl) rfl #[.agg #[.int .i64 a0_0, .int .i64 a0_1, .int .i64 a0_2, .int .i64 a0_3, .slice A0_4 l0_4.length c0_4]] (by rfl) rfl rfl (by (try simp only [List.map_toArray, List.map_cons, List.map_nil]); first | done | rfl | (simp only [List.length_drop, List.length_take]; rfl)) ?_
      with_reducible refine (laws_toPattern.calls k a0_0 a0_1 a0_2 a0_3 _ _ l0_4 t1724 t1725 t1726 t1727 t1728 _ ?side1 ?side2 A14.out).mono ?_
      (case side1 => repeat (first | exact (Kd.C_below HR0_4.out HB.out) | (with_reducible refine Kd.C_alloc ?_ _) | (with_reducible refine Kd.C_drewN ?_ _) | (with_reducible refine Kd.C_drew ?_)))
      (case side2 => exact HC0_4.out)
      rintro e w32 ⟨v1729, rfl, ho0, hb⟩
      refine ⟨_, rfl, ?_⟩
      have n0_ := Aside0.mk (Kd.R_elder' (by (with_reducible repeat (first | apply Kd.R_alloc | apply Kd.R_drewN | apply Kd.R_drew)); exact HO1709.out) (Kd.R_base ho0) hb)
      have n1_ := Aside0.mk (Kd.R_elder' (by (with_reducible repeat (first | apply Kd.R_alloc | apply Kd.R_drewN | apply Kd.R_drew)); exact HO1719.out) (Kd.R_base ho0) hb)
      have n2_ := Aside0.mk (Kd.R_lower (Kd.R_new' (Kd.R_new' ho0 (Kd.R_lt (by (with_reducible repeat (first | apply Kd.R_alloc | apply Kd.R_drewN | apply Kd.R_drew)); exact HO1709.out))) (Kd.R_lt (by (with_reducible repeat (first | apply Kd.R_alloc | apply Kd.R_drewN | apply Kd.R_drew)); exact HO1719.out))) (below_size (by repeat (first | (with_reducible first | exact HB.out | apply below_alloc | apply pw_below_drewN | apply below_drew1 | refine below_set ?_ GE1701.out | refine below_set ?_ GE1720.out) | exact HB.out))))
      have n3_ := Aside0.mk (blk_below (g := gb1701) (o := .cells #[.int .i64 a0_0, .int .i64 a0_1, .int .i64 a0_2, .int .i64 a0_3, .slice A0_4 l0_4.length c0_4] 26 (0, 0)) (by (with_reducible repeat (first | refine blk_drewN ?_ _ | refine blk_drew ?_ | refine blk_alloc ?_ _)); exact BK1701.out) hb)
      have n4_ := Aside0.mk (blk_below (g := gb1720) (o := .cells #[.int .i64 t1713, .int .i64 t1714, .int .i64 t1715, .int .i64 t1716, .slice Ao29 t1717.length co29] 30 (0, 0)) (by (with_reducible repeat (first | refine blk_drewN ?_ _ | refine blk_drew ?_ | refine blk_alloc ?_ _)); exact BK1720.out) hb)
      have n5_ := Aside0.mk (below_step (by repeat (first | (with_reducible first | exact HB.out | apply below_alloc | apply pw_below_drewN | apply below_drew1 | refine below_set ?_ GE1701.out | refine below_set ?_ GE1720.out) | exact HB.out)) hb)
      clear HO1709
      clear HO1719
      clear BK1701
      clear BK1720
      clear HB
      have HO1709 := n0_
      have HO1719 := n1_
      have HO1730 := n2_
      have BK1701 := n3_
      have BK1720 := n4_
      have HB := n5_
      clear n0_ n1_ n2_ n3_ n4_ n5_
      (try clear hb)
      (try clear hb2)
      (try clear hk)
      (try clear hi)
      (try clear ho0)
      obtain ⟨Ao33, co33, eo33⟩ := Kd.R_slice HO1730.out
      (first | subst eo33 | (injection eo33 with f1_ f2_ f3_; have f4_ := f1_.symm; have f5_ := f3_.symm; clear f1_ f2_ f3_; subst f4_; subst f5_))
      refine hK.out _ _ ⟨(blk_cell BK1720.out 0).trans rfl, (blk_cell BK1720.out 1).trans rfl, (blk_cell BK1720.out 2).trans rfl, (blk_cell BK1720.out 3).trans rfl, (blk_cell BK1720.out 4).trans rfl, (blk_cell BK1701.out 0).trans rfl, (blk_cell BK1701.out 1).trans rfl, (blk_cell BK1701.out 2).trans rfl, (blk_cell BK1701.out 3).trans rfl, (blk_cell BK1701.out 4).trans rfl⟩ (fun hHeld => ?_)
      clear hK K
      refine norm_ (a' := ?_) ?_ ?_
      rotate_left
      ·
       show Act.put _ (some 46) _ = _
       simp only [Act.put, List.setIfInBounds_toArray, List.set_cons_zero, List.set_cons_succ, i64_w, i32_w]
       rfl
      refine one_ (i := 3) (N := some 47) #[true, true, true, true, false] rfl rfl (by kernel_rfl) (by decide) (fun K hK => ?_)
      refine goes_ Try.func18 (by kernel_rfl) rfl #[.agg #[.int .i64 t1713, .int .i64 t1714, .int .i64 t1715, .int .i64 t1716, .slice Ao29 t1717.length co29], .agg #[.int .i64 t1724, .int .i64 t1725, .int .i64 t1726, .int .i64 t1727, .slice Ao33 t1728.length co33]] (by rfl) rfl rfl (by (try simp only [List.map_toArray, List.map_cons, List.map_nil]); first | done | rfl | (simp only [List.length_drop, List.length_take]; rfl)) ?_
      with_reducible refine (laws_eqPattern.calls k t1713 t1714 t1715 t1716 _ _ t1717 t1724 t1725 t1726 t1727 _ _ t1728 true _ ?side1 ?side2 ?side3 ?side4 A15.out).mono ?_
      (case side1 => repeat (first | exact (Kd.R_reads' HO1719.out).2.2 | (with_reducible refine Kd.C_alloc ?_ _) | (with_reducible refine Kd.C_drewN ?_ _) | (with_reducible refine Kd.C_drew ?_)))
      (case side2 => exact (Kd.R_reads' HO1719.out).2.1)
      (case side3 => repeat (first | exact (Kd.R_reads' HO1730.out).2.2 | (with_reducible refine Kd.C_alloc ?_ _) | (with_reducible refine Kd.C_drewN ?_ _) | (with_reducible refine Kd.C_drew ?_)))
      (case side4 => exact (Kd.R_reads' HO1730.out).2.1)
      rintro e w34 ⟨rfl, hb⟩
      refine ⟨_, rfl, ?_⟩
      have n0_ := Aside0.mk (Kd.R_below (by (with_reducible repeat (first | apply Kd.R_alloc | apply Kd.R_drewN | apply Kd.R_drew)); exact HO1709.out) hb)
      have n1_ := Aside0.mk (Kd.R_below (by (with_reducible repeat (first | apply Kd.R_alloc | apply Kd.R_drewN | apply Kd.R_drew)); exact HO1719.out) hb)
      have n2_ := Aside0.mk (Kd.R_below (by (with_reducible repeat (first | apply Kd.R_alloc | apply Kd.R_drewN | apply Kd.R_drew)); exact HO1730.out) hb)
      have n3_ := Aside0.mk (blk_below (g := gb1701) (o := .cells #[.int .i64 a0_0, .int .i64 a0_1, .int .i64 a0_2, .int .i64 a0_3, .slice A0_4 l0_4.length c0_4] 26 (0, 0)) (by (with_reducible repeat (first | refine blk_drewN ?_ _ | refine blk_drew ?_ | refine blk_alloc ?_ _)); exact BK1701.out) hb)
      have n4_ := Aside0.mk (blk_below (g := gb1720) (o := .cells #[.int .i64 t1713, .int .i64 t1714, .int .i64 t1715, .int .i64 t1716, .slice Ao29 t1717.length co29] 30 (0, 0)) (by (with_reducible repeat (first | refine blk_drewN ?_ _ | refine blk_drew ?_ | refine blk_alloc ?_ _)); exact BK1720.out) hb)
      have n5_ := Aside0.mk (below_step (by repeat (first | (with_reducible first | exact HB.out | apply below_alloc | apply pw_below_drewN | apply below_drew1 | refine below_set ?_ GE1701.out | refine below_set ?_ GE1720.out) | exact HB.out)) hb)
      clear HO1709
      clear HO1719
      clear HO1730
      clear BK1701
      clear BK1720
      clear HB
      have HO1709 := n0_
      have HO1719 := n1_
      have HO1730 := n2_
      have BK1701 := n3_
      have BK1720 := n4_
      have HB := n5_
      clear n0_ n1_ n2_ n3_ n4_ n5_
      (try clear hb)
      (try clear hb2)
      (try clear hk)
      (try clear hi)
      refine hK.out _ _ ⟨(blk_cell BK1720.out 0).trans rfl, (blk_cell BK1720.out 1).trans rfl, (blk_cell BK1720.out 2).trans rfl, (blk_cell BK1720.out 3).trans rfl, (blk_cell BK1720.out 4).trans rfl, (blk_cell BK1701.out 0).trans rfl, (blk_cell BK1701.out 1).trans rfl, (blk_cell BK1701.out 2).trans rfl, (blk_cell BK1701.out 3).trans rfl, (blk_cell BK1701.out 4).trans rfl⟩ (fun hHeld => ?_)
      clear hK K
      refine norm_ (a' := ?_) ?_ ?_
      rotate_left
      ·
       show Act.put _ (some 47) _ = _
       simp only [Act.put, List.setIfInBounds_toArray, List.set_cons_zero, List.set_cons_succ, i64_w, i32_w]
       rfl
      refine pure_ (i := 4) (N := some 48) (v := ?_) (a' := ?_) #[true, true, true, true, true] rfl rfl (by kernel_rfl) (fun _ _ _ h => h) (Or.inl ⟨by rfl, ?_⟩) ?_ ?_
      rotate_left
      ·
       intro w'
       go_simp
       with_reducible rfl
      rotate_left
      ·
       simp only [Act.put, List.setIfInBounds_toArray, List.set_cons_zero, List.set_cons_succ, i64_w, i32_w]
       rfl
      refine done_ (by kernel_rfl) ?_
      try go_wp2
      go_ret
      exact ⟨by first | rfl | (simp [errW_none, errW_some] <;> rfl) | (simp [*, errW_none, errW_some] <;> rfl), by repeat (first | (with_reducible first | exact HB.out | apply below_alloc | apply pw_below_drewN | apply below_drew1 | refine below_set ?_ GE1701.out | refine below_set ?_ GE1720.out) | exact HB.out)⟩
     ·
      replace c16 := Bool.eq_false_iff.mpr c16
      subst c16
      have H1 : (none) = some r := by rw [if_neg (show ¬ (false = true) by decide)] at H; exact H
      clear H
      have H := H1
      clear H1
      exact absurd H (by simp)
    ·
     rw [if_neg c13] at H
     exact absurd H (by simp)
   ·
    rw [if_neg c12] at H
    exact absurd H (by simp)
  ·
   rw [if_neg c11] at H
   exact absurd H (by simp)

end Go.Proofs.Ytomgliinndfliaa.X
