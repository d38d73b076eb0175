/- Part of the proof of the law FnExactPanelsFrom: each function of the code computes what its plain function says. No condition of its own. -/
import Derived.Test.YtomgliinndfliaaCFnExactPanelsFromW0
set_option maxHeartbeats 8000000
set_option maxRecDepth 100000
namespace Go.Proofs.Ytomgliinndfliaa.X
open Go.RowKit Go.Proofs.YtomgliinndfliaaW.PrintWords Go.Proofs.YtomgliinndfliaaW.PrintLast Go.Proofs.YtomgliinndfliaaW.PrintMore
attribute [local go_sem] max2_int min2_int max_two min_two max_three min_three max_four min_four   -- for this text's walks alone
set_option linter.unusedVariables false
set_option linter.unusedSimpArgs false
theorem yJ.calls (k : Nat) (A0 : Option Addr) (c0 : Nat) (l0 : List (S38)) (r1 : Int) (r2 : Int) (r3 : Int) (w : World) (hr0 : Kd.C k38 w A0 l0.length l0) (hc0 : l0.length ≤ c0) (h : yJ.f k l0 = some (r1, r2, r3)) :
  Calls Try.prog 163 #[.slice A0 l0.length c0] w fun e w' => e = .returned (.agg #[.int .i64 r1, .int .i64 r2, .int .i64 r3]) ∧ Below w.heap.size w w' := by
 have hu28 := Try.underlying28
 have hu38 := Try.underlying38
 have HR0 := zC.mk hr0
 have HC0 := zC.mk hc0
 clear hr0 hc0
 have HB := zC.mk (Below.refl w.heap.size w)
 have H : (yJ.l0 k l0 0 0 0 0) = some (r1, r2, r3) := h
 clear h
 have H' := zC.mk H
 clear H
 go_enter Try.func163, Try.ntmps163
 go_wp2_with (first | ((with_reducible refine zP (N := 2) rfl ?_); refine zO ?hg (N := 2) ?hd (cs := #[.int .i64 0, .int .i64 0, .int .i64 0]) (t := 28) ?hr ?_; (case hd => rfl); (case hg => rfl); (case hr => first | (go_simp; done) | (go_simp; rfl)); intro gb360 hg w2 hbox hb; have n0_ := zC.mk (zL (by repeat (first | (with_reducible first | exact HB.out | apply zG | apply zA | apply zF) | exact HB.out)) hb); have n1_ := zC.mk (hbox); have n2_ := zC.mk ((by rw [hg]; exact (zM (by repeat (first | (with_reducible first | exact HB.out | apply zG | apply zA | apply zF) | exact HB.out))) : w.heap.size ≤ gb360)); have n3_ := n2_; clear HB; have HB := n0_; have BK360 := n1_; have GW360 := n2_; have GE360 := n3_; clear n0_ n1_ n2_ n3_; clear hb hbox hg) | ((with_reducible refine zP (N := 3) rfl ?_); refine zO ?hg (N := 3) ?hd (cs := #[.int .i64 0, .int .i64 0]) (t := 38) ?hr ?_; (case hd => rfl); (case hg => rfl); (case hr => first | (go_simp; done) | (go_simp; rfl)); intro gb361 hg w3 hbox hb; have n0_ := zC.mk (zK (g := gb360) (o := .cells #[.int .i64 0, .int .i64 0, .int .i64 0] 28 (0, 0)) (by (with_reducible repeat (first | refine zE ?_ _ | refine zI ?_ | refine zD ?_ _)); exact BK360.out) hb); have n1_ := zC.mk (zL (by repeat (first | (with_reducible first | exact HB.out | apply zG | apply zA | apply zF | refine zH ?_ GE360.out) | exact HB.out)) hb); have n2_ := zC.mk (hbox); have n3_ := zC.mk ((by rw [hg]; exact (zM (by repeat (first | (with_reducible first | exact HB.out | apply zG | apply zA | apply zF | refine zH ?_ GE360.out) | exact HB.out))) : w.heap.size ≤ gb361)); have n4_ := n3_; have n5_ := zC.mk ((by rw [hg]; exact Nat.ne_of_lt (zX (by (with_reducible repeat (first | refine zE ?_ _ | refine zI ?_ | refine zD ?_ _)); exact BK360.out)) : gb360 ≠ gb361)); have n6_ := zC.mk n5_.out.symm; clear BK360; clear HB; have BK360 := n0_; have HB := n1_; have BK361 := n2_; have GW361 := n3_; have GE361 := n4_; have NB360_361 := n5_; have NB361_360 := n6_; clear n0_ n1_ n2_ n3_ n4_ n5_ n6_; clear hb hbox hg; have hnb4 := NB361_360.out; have hnc4 := NB360_361.out; have hcz5_0 : w3.cell? ⟨gb361, 0, none⟩ = some (.int .i64 0) := zB BK361.out 0; have hcz5_1 : w3.cell? ⟨gb361, 1, none⟩ = some (.int .i64 0) := zB BK361.out 1; have hfz5_0 := zJ BK361.out 0; have hfz5_1 := zJ BK361.out 1))
 go_loopg [4, 5] k (fun kq v4 v5 w' => ∃ (x4_1 : Int) (x5_1 : Int) (x362000_1 : Int) (x362001_1 : Int), v4 = .int .i64 x4_1 ∧ v5 = .int .i64 x5_1 ∧ zC (yJ.l0 kq l0 x4_1 x5_1 x362000_1 x362001_1 = some (r1, r2, r3)) ∧ zC (kq ≤ k) ∧ zC (w'.heap[gb360]? = some (.cells #[.int .i64 0, .int .i64 0, .int .i64 0] 28 (0, 0))) ∧ zC (w'.heap[gb361]? = some (.cells #[.int .i64 x362000_1, .int .i64 x362001_1] 38 (0, 0))) ∧ zC (Below w.heap.size w w'))
 case atStart => exact ⟨(0), (0), (0), (0), (by first | rfl | (simp; done) | (simp [*]; done)), (by first | rfl | (simp; done) | (simp [*]; done)), H', ⟨Nat.le_refl _⟩, ⟨by (with_reducible repeat (first | refine zE ?_ _ | refine zI ?_ | refine zD ?_ _)); refine zW ?_ NB360_361.out _; (with_reducible repeat (first | refine zE ?_ _ | refine zI ?_ | refine zD ?_ _)); refine zW ?_ NB360_361.out _; (with_reducible repeat (first | refine zE ?_ _ | refine zI ?_ | refine zD ?_ _)); exact BK360.out⟩, ⟨by (with_reducible repeat (first | refine zE ?_ _ | refine zI ?_ | refine zD ?_ _)); refine zU (cs := #[.int .i64 0, .int .i64 0]) ?_ 1 _ rfl; (with_reducible repeat (first | refine zE ?_ _ | refine zI ?_ | refine zD ?_ _)); refine zU (cs := #[.int .i64 0, .int .i64 0]) ?_ 0 _ rfl; (with_reducible repeat (first | refine zE ?_ _ | refine zI ?_ | refine zD ?_ _)); exact BK361.out⟩, ⟨by repeat (first | (with_reducible first | exact HB.out | apply zG | apply zA | apply zF | refine zH ?_ GE360.out | refine zH ?_ GE361.out) | exact HB.out)⟩⟩
 case round =>
  clear H'
  try clear c1
  try clear p2
  try clear c4
  try clear hcz5_0
  try clear hcz5_1
  try clear hfz5_0
  try clear hfz5_1
  obtain ⟨x4_1, x5_1, x362000_1, x362001_1, rfl, rfl, HA, HK1, BK360, BK361, HB⟩ := hrel
  cases gk with
  | zero => exact absurd HA.out (by simp [yJ.l0])
  | succ k1 =>
   have H := HA.out
   clear HA
   simp only [yJ.l0] at H
   by_cases c6 : x5_1 < (l0.length : Int)
   ·
    rw [if_pos c6] at H
    have c6b0 : decide (x5_1 < (l0.length : Int)) = true := decide_eq_true c6
    clear c6
    by_cases c7 : 0 ≤ x5_1
    ·
     rw [if_pos c7] at H
     have c7b0 : decide (0 ≤ x5_1) = true := decide_eq_true c7
     clear c7
     have H' := zC.mk H
     clear H
     have p362 : 0 ≤ (x5_1 : Int) := of_decide_eq_true (by first | (with_reducible assumption) | assumption)
     have q362 : x5_1 < (l0.length : Int) := of_decide_eq_true (by first | (with_reducible assumption) | assumption)
     obtain ⟨ad362, e362, hx362_0, hx362_1⟩ := at_T38 HR0.out x5_1 p362 q362
     cases e362
     replace hx362_0 := (HB.out.cell (World.block_lt_of_cell? w _ hx362_0)).trans hx362_0
     replace hx362_1 := (HB.out.cell (World.block_lt_of_cell? w _ hx362_1)).trans hx362_1
     replace p362 := eq_true p362
     replace q362 := eq_true q362
     go_wp2_with (first | ((with_reducible refine zP (N := 6) rfl ?_); refine zO ?hg (N := 6) ?hd (cs := #[.int .i64 0, .int .i64 0]) (t := 38) ?hr ?_; (case hd => rfl); (case hg => rfl); (case hr => first | (go_simp; done) | (go_simp; rfl)); intro gb363 hg w8 hbox hb; have n0_ := zC.mk (zK (g := gb360) (o := .cells #[.int .i64 0, .int .i64 0, .int .i64 0] 28 (0, 0)) (by (with_reducible repeat (first | refine zE ?_ _ | refine zI ?_ | refine zD ?_ _)); exact BK360.out) hb); have n1_ := zC.mk (zK (g := gb361) (o := .cells #[.int .i64 x362000_1, .int .i64 x362001_1] 38 (0, 0)) (by (with_reducible repeat (first | refine zE ?_ _ | refine zI ?_ | refine zD ?_ _)); exact BK361.out) hb); have n2_ := zC.mk (zL (by repeat (first | (with_reducible first | exact HB.out | apply zG | apply zA | apply zF | refine zH ?_ GE360.out | refine zH ?_ GE361.out) | exact HB.out)) hb); have n3_ := zC.mk (hbox); have n4_ := zC.mk ((by rw [hg]; exact (zM (by repeat (first | (with_reducible first | exact HB.out | apply zG | apply zA | apply zF | refine zH ?_ GE360.out | refine zH ?_ GE361.out) | exact HB.out))) : w.heap.size ≤ gb363)); have n5_ := n4_; have n6_ := zC.mk ((by rw [hg]; exact Nat.ne_of_lt (zX (by (with_reducible repeat (first | refine zE ?_ _ | refine zI ?_ | refine zD ?_ _)); exact BK360.out)) : gb360 ≠ gb363)); have n7_ := zC.mk n6_.out.symm; have n8_ := zC.mk ((by rw [hg]; exact Nat.ne_of_lt (zX (by (with_reducible repeat (first | refine zE ?_ _ | refine zI ?_ | refine zD ?_ _)); exact BK361.out)) : gb361 ≠ gb363)); have n9_ := zC.mk n8_.out.symm; clear BK360; clear BK361; clear HB; have BK360 := n0_; have BK361 := n1_; have HB := n2_; have BK363 := n3_; have GW363 := n4_; have GE363 := n5_; have NB360_363 := n6_; have NB363_360 := n7_; have NB361_363 := n8_; have NB363_361 := n9_; clear n0_ n1_ n2_ n3_ n4_ n5_ n6_ n7_ n8_ n9_; clear hb hbox hg; have hnb9 := NB363_360.out; have hnc9 := NB360_363.out; have hnb10 := NB363_361.out; have hnc10 := NB361_363.out; have hcz11_0 : w8.cell? ⟨gb363, 0, none⟩ = some (.int .i64 0) := zB BK363.out 0; have hcz11_1 : w8.cell? ⟨gb363, 1, none⟩ = some (.int .i64 0) := zB BK363.out 1; have hfz11_0 := zJ BK363.out 0; have hfz11_1 := zJ BK363.out 1))
     go_loopg [] k1 (fun kq w' => ∃ (x362000_2 : Int) (x362001_2 : Int) (x364000_2 : Int) (x364001_2 : Int), zC (yJ.l1 kq l0 x4_1 x5_1 x362000_2 x362001_2 x364000_2 x364001_2 = some (r1, r2, r3)) ∧ zC (kq ≤ k1) ∧ zC (w'.heap[gb360]? = some (.cells #[.int .i64 0, .int .i64 0, .int .i64 0] 28 (0, 0))) ∧ zC (w'.heap[gb361]? = some (.cells #[.int .i64 x362000_2, .int .i64 x362001_2] 38 (0, 0))) ∧ zC (w'.heap[gb363]? = some (.cells #[.int .i64 x364000_2, .int .i64 x364001_2] 38 (0, 0))) ∧ zC (Below w.heap.size w w'))
     case atStart => exact ⟨(x362000_1), (x362001_1), ((rd_T38 l0 x5_1).f0), ((rd_T38 l0 x5_1).f1), H', ⟨Nat.le_refl _⟩, ⟨by (with_reducible repeat (first | refine zE ?_ _ | refine zI ?_ | refine zD ?_ _)); refine zW ?_ NB360_363.out _; (with_reducible repeat (first | refine zE ?_ _ | refine zI ?_ | refine zD ?_ _)); refine zW ?_ NB360_363.out _; (with_reducible repeat (first | refine zE ?_ _ | refine zI ?_ | refine zD ?_ _)); exact BK360.out⟩, ⟨by (with_reducible repeat (first | refine zE ?_ _ | refine zI ?_ | refine zD ?_ _)); refine zW ?_ NB361_363.out _; (with_reducible repeat (first | refine zE ?_ _ | refine zI ?_ | refine zD ?_ _)); refine zW ?_ NB361_363.out _; (with_reducible repeat (first | refine zE ?_ _ | refine zI ?_ | refine zD ?_ _)); exact BK361.out⟩, ⟨by (with_reducible repeat (first | refine zE ?_ _ | refine zI ?_ | refine zD ?_ _)); refine zU (cs := #[.int .i64 ((rd_T38 l0 x5_1).f0), .int .i64 0]) ?_ 1 _ rfl; (with_reducible repeat (first | refine zE ?_ _ | refine zI ?_ | refine zD ?_ _)); refine zU (cs := #[.int .i64 0, .int .i64 0]) ?_ 0 _ rfl; (with_reducible repeat (first | refine zE ?_ _ | refine zI ?_ | refine zD ?_ _)); exact BK363.out⟩, ⟨by repeat (first | (with_reducible first | exact HB.out | apply zG | apply zA | apply zF | refine zH ?_ GE360.out | refine zH ?_ GE361.out | refine zH ?_ GE363.out) | exact HB.out)⟩⟩
     case round =>
      clear H'
      try clear c1
      try clear p2
      try clear p3
      try clear q3
      try clear hx3
      try clear c4
      try clear c6
      try clear c6b0
      try clear c7
      try clear c7b0
      try clear c9
      try clear c10
      try clear hcz11_0
      try clear hcz11_1
      try clear hcz5_0
      try clear hcz5_1
      try clear hfz11_0
      try clear hfz11_1
      try clear hfz5_0
      try clear hfz5_1
      try clear hx362_0
      try clear hx362_1
      try clear p2
      try clear p362
      try clear q362
      obtain ⟨x362000_2, x362001_2, x364000_2, x364001_2, HA, HK2, BK360, BK361, BK363, HB⟩ := hrel
      cases gk with
      | zero => exact absurd HA.out (by simp [yJ.l1])
      | succ k2 =>
       have H := HA.out
       clear HA
       simp only [yJ.l1] at H
       by_cases c12 : x364001_2 = 0
       ·
        rw [if_pos c12] at H
        have c12b0 : (x364001_2 == 0) = true := beq_iff_eq.mpr c12
        have c12b1 : (x364001_2 != 0) = false := bne_eq_false_iff_eq.mpr c12
        clear c12
        replace H := Option.bind_eq_some_iff.mp H
        obtain ⟨t365, A130, H⟩ := H
        replace H : (if t365 > 0 then ((xU.f x362000_2 t365).bind fun t366 => (yJ.l0 k2 l0 t365 (wrap64 (x5_1 + 1)) t366 x362001_2)) else (yJ.l0 k2 l0 t365 (wrap64 (x5_1 + 1)) x362000_2 x362001_2)) = some (r1, r2, r3) := H
        have A13 := zC.mk A130
        clear A130
        by_cases c14 : t365 > 0
        ·
         rw [if_pos c14] at H
         have c14b0 : decide (0 < t365) = true := decide_eq_true c14
         clear c14
         replace H := Option.bind_eq_some_iff.mp H
         obtain ⟨t366, A150, H⟩ := H
         replace H : (yJ.l0 k2 l0 t365 (wrap64 (x5_1 + 1)) t366 x362001_2) = some (r1, r2, r3) := H
         have A15 := zC.mk A150
         clear A150
         have H' := zC.mk H
         clear H
         have hnb16 := NB363_360.out
         have hnc16 := NB360_363.out
         have hnb17 := NB363_361.out
         have hnc17 := NB361_363.out
         have hcz18_0 : wr.cell? ⟨gb363, 0, none⟩ = some (.int .i64 x364000_2) := zB BK363.out 0
         have hcz18_1 : wr.cell? ⟨gb363, 1, none⟩ = some (.int .i64 x364001_2) := zB BK363.out 1
         have hfz18_0 := zJ BK363.out 0
         have hfz18_1 := zJ BK363.out 1
         go_wp2_with (first | ((with_reducible refine zS (f := 182) rfl ?_); refine zZ (some 48) rfl rfl Try.func182 (by kernel_rfl) rfl #[.int .i64 x4_1, .int .i64 x364000_2] rfl (by (try simp only [List.map_toArray, List.map_cons, List.map_nil]); first | done | rfl) ?_; (with_reducible refine (xD.calls k2 x4_1 x364000_2 t365 _ A13.out).mono ?_); rintro e w19 ⟨rfl, hb⟩; refine ⟨_, rfl, ?_⟩; have n0_ := zC.mk (zK (g := gb360) (o := .cells #[.int .i64 0, .int .i64 0, .int .i64 0] 28 (0, 0)) (by (with_reducible repeat (first | refine zE ?_ _ | refine zI ?_ | refine zD ?_ _)); exact BK360.out) hb); have n1_ := zC.mk (zK (g := gb361) (o := .cells #[.int .i64 x362000_2, .int .i64 x362001_2] 38 (0, 0)) (by (with_reducible repeat (first | refine zE ?_ _ | refine zI ?_ | refine zD ?_ _)); exact BK361.out) hb); have n2_ := zC.mk (zK (g := gb363) (o := .cells #[.int .i64 x364000_2, .int .i64 x364001_2] 38 (0, 0)) (by (with_reducible repeat (first | refine zE ?_ _ | refine zI ?_ | refine zD ?_ _)); exact BK363.out) hb); have n3_ := zC.mk (zL (by repeat (first | (with_reducible first | exact HB.out | apply zG | apply zA | apply zF | refine zH ?_ GE360.out | refine zH ?_ GE361.out | refine zH ?_ GE363.out) | exact HB.out)) hb); clear BK360; clear BK361; clear BK363; clear HB; have BK360 := n0_; have BK361 := n1_; have BK363 := n2_; have HB := n3_; clear n0_ n1_ n2_ n3_; (try clear hb); have hnb20 := NB361_360.out; have hnc20 := NB360_361.out; have hcz21_0 : w19.cell? ⟨gb361, 0, none⟩ = some (.int .i64 x362000_2) := zB BK361.out 0; have hcz21_1 : w19.cell? ⟨gb361, 1, none⟩ = some (.int .i64 x362001_2) := zB BK361.out 1; have hfz21_0 := zJ BK361.out 0; have hfz21_1 := zJ BK361.out 1) | ((with_reducible refine zS (f := 156) rfl ?_); refine zZ (some 54) rfl rfl Try.func156 (by kernel_rfl) rfl #[.int .i64 x362000_2, .int .i64 t365] rfl (by (try simp only [List.map_toArray, List.map_cons, List.map_nil]); first | done | rfl) ?_; (with_reducible refine (xU.calls x362000_2 t365 t366 _ A15.out).mono ?_); rintro e w' ⟨rfl, ⟨nd, rfl⟩⟩; refine ⟨_, rfl, ?_⟩; (try (rw [drewN_self w19]; generalize hq_ : World.drewN w19 _ = w19; have n0_ : zC (w19.heap[gb360]? = some (.cells #[.int .i64 0, .int .i64 0, .int .i64 0] 28 (0, 0))) := ⟨by rw [← hq_]; exact (by (with_reducible repeat (first | refine zE ?_ _ | refine zI ?_ | refine zD ?_ _)); exact BK360.out)⟩; have n1_ : zC (w19.heap[gb361]? = some (.cells #[.int .i64 x362000_2, .int .i64 x362001_2] 38 (0, 0))) := ⟨by rw [← hq_]; exact (by (with_reducible repeat (first | refine zE ?_ _ | refine zI ?_ | refine zD ?_ _)); exact BK361.out)⟩; have n2_ : zC (w19.heap[gb363]? = some (.cells #[.int .i64 x364000_2, .int .i64 x364001_2] 38 (0, 0))) := ⟨by rw [← hq_]; exact (by (with_reducible repeat (first | refine zE ?_ _ | refine zI ?_ | refine zD ?_ _)); exact BK363.out)⟩; have n3_ : zC (Below w.heap.size w w19) := ⟨by rw [← hq_]; exact (by repeat (first | (with_reducible first | exact HB.out | apply zG | apply zA | apply zF | refine zH ?_ GE360.out | refine zH ?_ GE361.out | refine zH ?_ GE363.out) | exact HB.out))⟩; clear BK360 BK361 BK363 HB hq_; have BK360 := n0_; have BK361 := n1_; have BK363 := n2_; have HB := n3_; clear n0_ n1_ n2_ n3_)); have hcz22_0 : w19.cell? ⟨gb361, 0, none⟩ = some (.int .i64 x362000_2) := zB BK361.out 0; have hcz22_1 : w19.cell? ⟨gb361, 1, none⟩ = some (.int .i64 x362001_2) := zB BK361.out 1; have hfz22_0 := zJ BK361.out 0; have hfz22_1 := zJ BK361.out 1))
         go_roundg k2
         case measure => have := HK1.out; have := HK2.out; omega
         case rel => exact ⟨(t365), (wrap64 (x5_1 + 1)), (t366), (x362001_2), (by first | rfl | (simp; done) | (simp [*]; done)), (by first | rfl | (simp; done) | (simp [*]; done)), H', ⟨by have := HK1.out; have := HK2.out; omega⟩, ⟨by (with_reducible repeat (first | refine zE ?_ _ | refine zI ?_ | refine zD ?_ _)); refine zW ?_ NB360_361.out _; (with_reducible repeat (first | refine zE ?_ _ | refine zI ?_ | refine zD ?_ _)); exact BK360.out⟩, ⟨by (with_reducible repeat (first | refine zE ?_ _ | refine zI ?_ | refine zD ?_ _)); refine zU (cs := #[.int .i64 x362000_2, .int .i64 x362001_2]) ?_ 0 _ rfl; (with_reducible repeat (first | refine zE ?_ _ | refine zI ?_ | refine zD ?_ _)); exact BK361.out⟩, ⟨by repeat (first | (with_reducible first | exact HB.out | apply zG | apply zA | apply zF | refine zH ?_ GE360.out | refine zH ?_ GE361.out | refine zH ?_ GE363.out) | exact HB.out)⟩⟩
        ·
         rw [if_neg c14] at H
         have c14b0 : decide (0 < t365) = false := decide_eq_false c14
         clear c14
         have H' := zC.mk H
         clear H
         have hnb23 := NB363_360.out
         have hnc23 := NB360_363.out
         have hnb24 := NB363_361.out
         have hnc24 := NB361_363.out
         have hcz25_0 : wr.cell? ⟨gb363, 0, none⟩ = some (.int .i64 x364000_2) := zB BK363.out 0
         have hcz25_1 : wr.cell? ⟨gb363, 1, none⟩ = some (.int .i64 x364001_2) := zB BK363.out 1
         have hfz25_0 := zJ BK363.out 0
         have hfz25_1 := zJ BK363.out 1
         go_wp2_with (first | ((with_reducible refine zS (f := 182) rfl ?_); refine zZ (some 48) rfl rfl Try.func182 (by kernel_rfl) rfl #[.int .i64 x4_1, .int .i64 x364000_2] rfl (by (try simp only [List.map_toArray, List.map_cons, List.map_nil]); first | done | rfl) ?_; (with_reducible refine (xD.calls k2 x4_1 x364000_2 t365 _ A13.out).mono ?_); rintro e w26 ⟨rfl, hb⟩; refine ⟨_, rfl, ?_⟩; have n0_ := zC.mk (zK (g := gb360) (o := .cells #[.int .i64 0, .int .i64 0, .int .i64 0] 28 (0, 0)) (by (with_reducible repeat (first | refine zE ?_ _ | refine zI ?_ | refine zD ?_ _)); exact BK360.out) hb); have n1_ := zC.mk (zK (g := gb361) (o := .cells #[.int .i64 x362000_2, .int .i64 x362001_2] 38 (0, 0)) (by (with_reducible repeat (first | refine zE ?_ _ | refine zI ?_ | refine zD ?_ _)); exact BK361.out) hb); have n2_ := zC.mk (zK (g := gb363) (o := .cells #[.int .i64 x364000_2, .int .i64 x364001_2] 38 (0, 0)) (by (with_reducible repeat (first | refine zE ?_ _ | refine zI ?_ | refine zD ?_ _)); exact BK363.out) hb); have n3_ := zC.mk (zL (by repeat (first | (with_reducible first | exact HB.out | apply zG | apply zA | apply zF | refine zH ?_ GE360.out | refine zH ?_ GE361.out | refine zH ?_ GE363.out) | exact HB.out)) hb); clear BK360; clear BK361; clear BK363; clear HB; have BK360 := n0_; have BK361 := n1_; have BK363 := n2_; have HB := n3_; clear n0_ n1_ n2_ n3_; (try clear hb)))
         go_roundg k2
         case measure => have := HK1.out; have := HK2.out; omega
         case rel => exact ⟨(t365), (wrap64 (x5_1 + 1)), (x362000_2), (x362001_2), (by first | rfl | (simp; done) | (simp [*]; done)), (by first | rfl | (simp; done) | (simp [*]; done)), H', ⟨by have := HK1.out; have := HK2.out; omega⟩, ⟨by (with_reducible repeat (first | refine zE ?_ _ | refine zI ?_ | refine zD ?_ _)); exact BK360.out⟩, ⟨by (with_reducible repeat (first | refine zE ?_ _ | refine zI ?_ | refine zD ?_ _)); exact BK361.out⟩, ⟨by repeat (first | (with_reducible first | exact HB.out | apply zG | apply zA | apply zF | refine zH ?_ GE360.out | refine zH ?_ GE361.out | refine zH ?_ GE363.out) | exact HB.out)⟩⟩
       ·
        rw [if_neg c12] at H
        have c12b0 : (x364001_2 == 0) = false := beq_eq_false_iff_ne.mpr c12
        have c12b1 : (x364001_2 != 0) = true := bne_iff_ne.mpr c12
        have H' := zC.mk H
        clear H
        have hnb27 := NB363_360.out
        have hnc27 := NB360_363.out
        have hnb28 := NB363_361.out
        have hnc28 := NB361_363.out
        have hcz29_0 : wr.cell? ⟨gb363, 0, none⟩ = some (.int .i64 x364000_2) := zB BK363.out 0
        have hcz29_1 : wr.cell? ⟨gb363, 1, none⟩ = some (.int .i64 x364001_2) := zB BK363.out 1
        have hfz29_0 := zJ BK363.out 0
        have hfz29_1 := zJ BK363.out 1
        have hnb30 := NB361_360.out
        have hnc30 := NB360_361.out
        have hcz31_0 : wr.cell? ⟨gb361, 0, none⟩ = some (.int .i64 x362000_2) := zB BK361.out 0
        have hcz31_1 : wr.cell? ⟨gb361, 1, none⟩ = some (.int .i64 x362001_2) := zB BK361.out 1
        have hfz31_0 := zJ BK361.out 0
        have hfz31_1 := zJ BK361.out 1
        go_wp2_with (first | ((with_reducible refine zP (N := 8) rfl ?_); refine zO ?hg (N := 8) ?hd (cs := #[.int .i64 0, .int .i64 0]) (t := 38) ?hr ?_; (case hd => rfl); (case hg => rfl); (case hr => first | (go_simp; done) | (go_simp; rfl)); intro gb364 hg w32 hbox hb; have n0_ := zC.mk (zK (g := gb360) (o := .cells #[.int .i64 0, .int .i64 0, .int .i64 0] 28 (0, 0)) (by (with_reducible repeat (first | refine zE ?_ _ | refine zI ?_ | refine zD ?_ _)); exact BK360.out) hb); have n1_ := zC.mk (zK (g := gb361) (o := .cells #[.int .i64 x362000_2, .int .i64 x362001_2] 38 (0, 0)) (by (with_reducible repeat (first | refine zE ?_ _ | refine zI ?_ | refine zD ?_ _)); exact BK361.out) hb); have n2_ := zC.mk (zK (g := gb363) (o := .cells #[.int .i64 x364000_2, .int .i64 x364001_2] 38 (0, 0)) (by (with_reducible repeat (first | refine zE ?_ _ | refine zI ?_ | refine zD ?_ _)); exact BK363.out) hb); have n3_ := zC.mk (zL (by repeat (first | (with_reducible first | exact HB.out | apply zG | apply zA | apply zF | refine zH ?_ GE360.out | refine zH ?_ GE361.out | refine zH ?_ GE363.out) | exact HB.out)) hb); have n4_ := zC.mk (hbox); have n5_ := zC.mk ((by rw [hg]; exact (zM (by repeat (first | (with_reducible first | exact HB.out | apply zG | apply zA | apply zF | refine zH ?_ GE360.out | refine zH ?_ GE361.out | refine zH ?_ GE363.out) | exact HB.out))) : w.heap.size ≤ gb364)); have n6_ := n5_; have n7_ := zC.mk ((by rw [hg]; exact Nat.ne_of_lt (zX (by (with_reducible repeat (first | refine zE ?_ _ | refine zI ?_ | refine zD ?_ _)); exact BK360.out)) : gb360 ≠ gb364)); have n8_ := zC.mk n7_.out.symm; have n9_ := zC.mk ((by rw [hg]; exact Nat.ne_of_lt (zX (by (with_reducible repeat (first | refine zE ?_ _ | refine zI ?_ | refine zD ?_ _)); exact BK361.out)) : gb361 ≠ gb364)); have n10_ := zC.mk n9_.out.symm; have n11_ := zC.mk ((by rw [hg]; exact Nat.ne_of_lt (zX (by (with_reducible repeat (first | refine zE ?_ _ | refine zI ?_ | refine zD ?_ _)); exact BK363.out)) : gb363 ≠ gb364)); have n12_ := zC.mk n11_.out.symm; clear BK360; clear BK361; clear BK363; clear HB; have BK360 := n0_; have BK361 := n1_; have BK363 := n2_; have HB := n3_; have BK364 := n4_; have GW364 := n5_; have GE364 := n6_; have NB360_364 := n7_; have NB364_360 := n8_; have NB361_364 := n9_; have NB364_361 := n10_; have NB363_364 := n11_; have NB364_363 := n12_; clear n0_ n1_ n2_ n3_ n4_ n5_ n6_ n7_ n8_ n9_ n10_ n11_ n12_; clear hb hbox hg; have hnb33 := NB364_360.out; have hnc33 := NB360_364.out; have hnb34 := NB364_361.out; have hnc34 := NB361_364.out; have hnb35 := NB364_363.out; have hnc35 := NB363_364.out; have hcz36_0 : w32.cell? ⟨gb364, 0, none⟩ = some (.int .i64 0) := zB BK364.out 0; have hcz36_1 : w32.cell? ⟨gb364, 1, none⟩ = some (.int .i64 0) := zB BK364.out 1; have hfz36_0 := zJ BK364.out 0; have hfz36_1 := zJ BK364.out 1; have hcz37_0 : w32.cell? ⟨gb363, 0, none⟩ = some (.int .i64 x364000_2) := zB BK363.out 0; have hcz37_1 : w32.cell? ⟨gb363, 1, none⟩ = some (.int .i64 x364001_2) := zB BK363.out 1; have hfz37_0 := zJ BK363.out 0; have hfz37_1 := zJ BK363.out 1; have hcz38_0 : w32.cell? ⟨gb361, 0, none⟩ = some (.int .i64 x362000_2) := zB BK361.out 0; have hcz38_1 : w32.cell? ⟨gb361, 1, none⟩ = some (.int .i64 x362001_2) := zB BK361.out 1; have hfz38_0 := zJ BK361.out 0; have hfz38_1 := zJ BK361.out 1))
        go_roundg k2
        case measure => have := HK1.out; have := HK2.out; omega
        case rel => exact ⟨(x364000_2), (x364001_2), (wrap64 (x362000_2 - (wrap64 ((wrap64 (Int.tdiv x362001_2 x364001_2)) * x364000_2)))), (wrap64 (x362001_2 - (wrap64 ((wrap64 (Int.tdiv x362001_2 x364001_2)) * x364001_2)))), H', ⟨by have := HK1.out; have := HK2.out; omega⟩, ⟨by (with_reducible repeat (first | refine zE ?_ _ | refine zI ?_ | refine zD ?_ _)); refine zW ?_ NB360_363.out _; (with_reducible repeat (first | refine zE ?_ _ | refine zI ?_ | refine zD ?_ _)); refine zW ?_ NB360_363.out _; (with_reducible repeat (first | refine zE ?_ _ | refine zI ?_ | refine zD ?_ _)); refine zW ?_ NB360_361.out _; (with_reducible repeat (first | refine zE ?_ _ | refine zI ?_ | refine zD ?_ _)); refine zW ?_ NB360_361.out _; (with_reducible repeat (first | refine zE ?_ _ | refine zI ?_ | refine zD ?_ _)); refine zW ?_ NB360_364.out _; (with_reducible repeat (first | refine zE ?_ _ | refine zI ?_ | refine zD ?_ _)); refine zW ?_ NB360_364.out _; (with_reducible repeat (first | refine zE ?_ _ | refine zI ?_ | refine zD ?_ _)); exact BK360.out⟩, ⟨by (with_reducible repeat (first | refine zE ?_ _ | refine zI ?_ | refine zD ?_ _)); refine zW ?_ NB361_363.out _; (with_reducible repeat (first | refine zE ?_ _ | refine zI ?_ | refine zD ?_ _)); refine zW ?_ NB361_363.out _; (with_reducible repeat (first | refine zE ?_ _ | refine zI ?_ | refine zD ?_ _)); refine zU (cs := #[.int .i64 x364000_2, .int .i64 x362001_2]) ?_ 1 _ rfl; (with_reducible repeat (first | refine zE ?_ _ | refine zI ?_ | refine zD ?_ _)); refine zU (cs := #[.int .i64 x362000_2, .int .i64 x362001_2]) ?_ 0 _ rfl; (with_reducible repeat (first | refine zE ?_ _ | refine zI ?_ | refine zD ?_ _)); refine zW ?_ NB361_364.out _; (with_reducible repeat (first | refine zE ?_ _ | refine zI ?_ | refine zD ?_ _)); refine zW ?_ NB361_364.out _; (with_reducible repeat (first | refine zE ?_ _ | refine zI ?_ | refine zD ?_ _)); exact BK361.out⟩, ⟨by (with_reducible repeat (first | refine zE ?_ _ | refine zI ?_ | refine zD ?_ _)); refine zU (cs := #[.int .i64 (wrap64 (x362000_2 - (wrap64 ((wrap64 (Int.tdiv x362001_2 x364001_2)) * x364000_2)))), .int .i64 x364001_2]) ?_ 1 _ rfl; (with_reducible repeat (first | refine zE ?_ _ | refine zI ?_ | refine zD ?_ _)); refine zU (cs := #[.int .i64 x364000_2, .int .i64 x364001_2]) ?_ 0 _ rfl; (with_reducible repeat (first | refine zE ?_ _ | refine zI ?_ | refine zD ?_ _)); refine zW ?_ NB363_361.out _; (with_reducible repeat (first | refine zE ?_ _ | refine zI ?_ | refine zD ?_ _)); refine zW ?_ NB363_361.out _; (with_reducible repeat (first | refine zE ?_ _ | refine zI ?_ | refine zD ?_ _)); refine zW ?_ NB363_364.out _; (with_reducible repeat (first | refine zE ?_ _ | refine zI ?_ | refine zD ?_ _)); refine zW ?_ NB363_364.out _; (with_reducible repeat (first | refine zE ?_ _ | refine zI ?_ | refine zD ?_ _)); exact BK363.out⟩, ⟨by repeat (first | (with_reducible first | exact HB.out | apply zG | apply zA | apply zF | refine zH ?_ GE360.out | refine zH ?_ GE361.out | refine zH ?_ GE363.out | refine zH ?_ GE364.out) | exact HB.out)⟩⟩
    ·
     rw [if_neg c7] at H
     exact absurd H (by simp)
   ·
    rw [if_neg c6] at H
    have c6b0 : decide (x5_1 < (l0.length : Int)) = false := decide_eq_false c6
    clear c6
    by_cases c39 : x362001_1 < 0
    ·
     rw [if_pos c39] at H
     have c39b0 : decide (x362001_1 < 0) = true := decide_eq_true c39
     clear c39
     replace H := Option.bind_eq_some_iff.mp H
     obtain ⟨⟨t367, t368⟩, A400, H⟩ := H
     replace H : (if x4_1 > 0 then ((xU.f t367 x4_1).bind fun t369 => (some (x4_1, t369, t368))) else (some (x4_1, t367, t368))) = some (r1, r2, r3) := H
     have A40 := zC.mk A400
     clear A400
     by_cases c41 : x4_1 > 0
     ·
      rw [if_pos c41] at H
      have c41b0 : decide (0 < x4_1) = true := decide_eq_true c41
      clear c41
      replace H := Option.bind_eq_some_iff.mp H
      obtain ⟨t369, A420, H⟩ := H
      replace H : (some (x4_1, t369, t368)) = some (r1, r2, r3) := H
      have A42 := zC.mk A420
      clear A420
      simp only [Option.some.injEq, Prod.mk.injEq] at H
      obtain ⟨rfl, rfl, rfl⟩ := H
      have hnb43 := NB361_360.out
      have hnc43 := NB360_361.out
      have hcz44_0 : wr.cell? ⟨gb361, 0, none⟩ = some (.int .i64 x362000_1) := zB BK361.out 0
      have hcz44_1 : wr.cell? ⟨gb361, 1, none⟩ = some (.int .i64 x362001_1) := zB BK361.out 1
      have hfz44_0 := zJ BK361.out 0
      have hfz44_1 := zJ BK361.out 1
      go_wp2_with (first | ((with_reducible refine zS (f := 183) rfl ?_); refine zZ (some 60) rfl rfl Try.func183 (by kernel_rfl) rfl #[.agg #[.int .i64 x362000_1, .int .i64 x362001_1], .int .i64 (-1)] rfl (by (try simp only [List.map_toArray, List.map_cons, List.map_nil]); first | done | rfl) ?_; (with_reducible refine (wT.calls x362000_1 x362001_1 (-1) t367 t368 _ A40.out).mono ?_); rintro e w45 ⟨rfl, hb⟩; refine ⟨_, rfl, ?_⟩; have n0_ := zC.mk (zK (g := gb360) (o := .cells #[.int .i64 0, .int .i64 0, .int .i64 0] 28 (0, 0)) (by (with_reducible repeat (first | refine zE ?_ _ | refine zI ?_ | refine zD ?_ _)); exact BK360.out) hb); have n1_ := zC.mk (zK (g := gb361) (o := .cells #[.int .i64 x362000_1, .int .i64 x362001_1] 38 (0, 0)) (by (with_reducible repeat (first | refine zE ?_ _ | refine zI ?_ | refine zD ?_ _)); exact BK361.out) hb); have n2_ := zC.mk (zL (by repeat (first | (with_reducible first | exact HB.out | apply zG | apply zA | apply zF | refine zH ?_ GE360.out | refine zH ?_ GE361.out) | exact HB.out)) hb); clear BK360; clear BK361; clear HB; have BK360 := n0_; have BK361 := n1_; have HB := n2_; clear n0_ n1_ n2_; (try clear hb); have hcz46_0 : w45.cell? ⟨gb361, 0, none⟩ = some (.int .i64 x362000_1) := zB BK361.out 0; have hcz46_1 : w45.cell? ⟨gb361, 1, none⟩ = some (.int .i64 x362001_1) := zB BK361.out 1; have hfz46_0 := zJ BK361.out 0; have hfz46_1 := zJ BK361.out 1) | ((with_reducible refine zS (f := 156) rfl ?_); refine zZ (some 66) rfl rfl Try.func156 (by kernel_rfl) rfl #[.int .i64 t367, .int .i64 x4_1] rfl (by (try simp only [List.map_toArray, List.map_cons, List.map_nil]); first | done | rfl) ?_; (with_reducible refine (xU.calls t367 x4_1 t369 _ A42.out).mono ?_); rintro e w' ⟨rfl, ⟨nd, rfl⟩⟩; refine ⟨_, rfl, ?_⟩; have hcz47_0 : w45.cell? ⟨gb360, 0, none⟩ = some (.int .i64 0) := zB BK360.out 0; have hcz47_1 : w45.cell? ⟨gb360, 1, none⟩ = some (.int .i64 0) := zB BK360.out 1; have hcz47_2 : w45.cell? ⟨gb360, 2, none⟩ = some (.int .i64 0) := zB BK360.out 2; have hfz47_0 := zJ BK360.out 0; have hfz47_1 := zJ BK360.out 1; have hfz47_2 := zJ BK360.out 2))
      refine bodyPost_ret (results_cell_row rfl _ _ gb360 28 #[.int .i64 x4_1, .int .i64 t369, .int .i64 t368] (0, 0) _ rfl (by (with_reducible repeat (first | refine zE ?_ _ | refine zI ?_ | refine zD ?_ _)); refine zU (cs := #[.int .i64 x4_1, .int .i64 t369, .int .i64 0]) ?_ 2 _ rfl; (with_reducible repeat (first | refine zE ?_ _ | refine zI ?_ | refine zD ?_ _)); refine zU (cs := #[.int .i64 x4_1, .int .i64 0, .int .i64 0]) ?_ 1 _ rfl; (with_reducible repeat (first | refine zE ?_ _ | refine zI ?_ | refine zD ?_ _)); refine zU (cs := #[.int .i64 0, .int .i64 0, .int .i64 0]) ?_ 0 _ rfl; (with_reducible repeat (first | refine zE ?_ _ | refine zI ?_ | refine zD ?_ _)); refine zW ?_ NB360_361.out _; (with_reducible repeat (first | refine zE ?_ _ | refine zI ?_ | refine zD ?_ _)); refine zW ?_ NB360_361.out _; (with_reducible repeat (first | refine zE ?_ _ | refine zI ?_ | refine zD ?_ _)); refine zW ?_ NB360_361.out _; (with_reducible repeat (first | refine zE ?_ _ | refine zI ?_ | refine zD ?_ _)); exact BK360.out) Try.underlying28 rfl (by kernel_rfl)) rfl ?_
      exact ⟨by first | rfl | (simp [*, errW_none, errW_some] <;> rfl), by repeat (first | (with_reducible first | exact HB.out | apply zG | apply zA | apply zF | refine zH ?_ GE360.out | refine zH ?_ GE361.out) | exact HB.out)⟩
     ·
      rw [if_neg c41] at H
      have c41b0 : decide (0 < x4_1) = false := decide_eq_false c41
      clear c41
      simp only [Option.some.injEq, Prod.mk.injEq] at H
      obtain ⟨rfl, rfl, rfl⟩ := H
      have hnb48 := NB361_360.out
      have hnc48 := NB360_361.out
      have hcz49_0 : wr.cell? ⟨gb361, 0, none⟩ = some (.int .i64 x362000_1) := zB BK361.out 0
      have hcz49_1 : wr.cell? ⟨gb361, 1, none⟩ = some (.int .i64 x362001_1) := zB BK361.out 1
      have hfz49_0 := zJ BK361.out 0
      have hfz49_1 := zJ BK361.out 1
      go_wp2_with (first | ((with_reducible refine zS (f := 183) rfl ?_); refine zZ (some 60) rfl rfl Try.func183 (by kernel_rfl) rfl #[.agg #[.int .i64 x362000_1, .int .i64 x362001_1], .int .i64 (-1)] rfl (by (try simp only [List.map_toArray, List.map_cons, List.map_nil]); first | done | rfl) ?_; (with_reducible refine (wT.calls x362000_1 x362001_1 (-1) t367 t368 _ A40.out).mono ?_); rintro e w50 ⟨rfl, hb⟩; refine ⟨_, rfl, ?_⟩; have n0_ := zC.mk (zK (g := gb360) (o := .cells #[.int .i64 0, .int .i64 0, .int .i64 0] 28 (0, 0)) (by (with_reducible repeat (first | refine zE ?_ _ | refine zI ?_ | refine zD ?_ _)); exact BK360.out) hb); have n1_ := zC.mk (zK (g := gb361) (o := .cells #[.int .i64 x362000_1, .int .i64 x362001_1] 38 (0, 0)) (by (with_reducible repeat (first | refine zE ?_ _ | refine zI ?_ | refine zD ?_ _)); exact BK361.out) hb); have n2_ := zC.mk (zL (by repeat (first | (with_reducible first | exact HB.out | apply zG | apply zA | apply zF | refine zH ?_ GE360.out | refine zH ?_ GE361.out) | exact HB.out)) hb); clear BK360; clear BK361; clear HB; have BK360 := n0_; have BK361 := n1_; have HB := n2_; clear n0_ n1_ n2_; (try clear hb); have hcz51_0 : w50.cell? ⟨gb361, 0, none⟩ = some (.int .i64 x362000_1) := zB BK361.out 0; have hcz51_1 : w50.cell? ⟨gb361, 1, none⟩ = some (.int .i64 x362001_1) := zB BK361.out 1; have hfz51_0 := zJ BK361.out 0; have hfz51_1 := zJ BK361.out 1; have hcz52_0 : w50.cell? ⟨gb360, 0, none⟩ = some (.int .i64 0) := zB BK360.out 0; have hcz52_1 : w50.cell? ⟨gb360, 1, none⟩ = some (.int .i64 0) := zB BK360.out 1; have hcz52_2 : w50.cell? ⟨gb360, 2, none⟩ = some (.int .i64 0) := zB BK360.out 2; have hfz52_0 := zJ BK360.out 0; have hfz52_1 := zJ BK360.out 1; have hfz52_2 := zJ BK360.out 2))
      refine bodyPost_ret (results_cell_row rfl _ _ gb360 28 #[.int .i64 x4_1, .int .i64 t367, .int .i64 t368] (0, 0) _ rfl (by (with_reducible repeat (first | refine zE ?_ _ | refine zI ?_ | refine zD ?_ _)); refine zU (cs := #[.int .i64 x4_1, .int .i64 t367, .int .i64 0]) ?_ 2 _ rfl; (with_reducible repeat (first | refine zE ?_ _ | refine zI ?_ | refine zD ?_ _)); refine zU (cs := #[.int .i64 x4_1, .int .i64 0, .int .i64 0]) ?_ 1 _ rfl; (with_reducible repeat (first | refine zE ?_ _ | refine zI ?_ | refine zD ?_ _)); refine zU (cs := #[.int .i64 0, .int .i64 0, .int .i64 0]) ?_ 0 _ rfl; (with_reducible repeat (first | refine zE ?_ _ | refine zI ?_ | refine zD ?_ _)); refine zW ?_ NB360_361.out _; (with_reducible repeat (first | refine zE ?_ _ | refine zI ?_ | refine zD ?_ _)); refine zW ?_ NB360_361.out _; (with_reducible repeat (first | refine zE ?_ _ | refine zI ?_ | refine zD ?_ _)); exact BK360.out) Try.underlying28 rfl (by kernel_rfl)) rfl ?_
      exact ⟨by first | rfl | (simp [*, errW_none, errW_some] <;> rfl), by repeat (first | (with_reducible first | exact HB.out | apply zG | apply zA | apply zF | refine zH ?_ GE360.out | refine zH ?_ GE361.out) | exact HB.out)⟩
    ·
     rw [if_neg c39] at H
     have c39b0 : decide (x362001_1 < 0) = false := decide_eq_false c39
     clear c39
     by_cases c53 : x4_1 > 0
     ·
      rw [if_pos c53] at H
      have c53b0 : decide (0 < x4_1) = true := decide_eq_true c53
      clear c53
      replace H := Option.bind_eq_some_iff.mp H
      obtain ⟨t370, A540, H⟩ := H
      replace H : (some (x4_1, t370, x362001_1)) = some (r1, r2, r3) := H
      have A54 := zC.mk A540
      clear A540
      simp only [Option.some.injEq, Prod.mk.injEq] at H
      obtain ⟨rfl, rfl, rfl⟩ := H
      have hnb55 := NB361_360.out
      have hnc55 := NB360_361.out
      have hcz56_0 : wr.cell? ⟨gb361, 0, none⟩ = some (.int .i64 x362000_1) := zB BK361.out 0
      have hcz56_1 : wr.cell? ⟨gb361, 1, none⟩ = some (.int .i64 x362001_1) := zB BK361.out 1
      have hfz56_0 := zJ BK361.out 0
      have hfz56_1 := zJ BK361.out 1
      go_wp2_with (first | ((with_reducible refine zS (f := 156) rfl ?_); refine zZ (some 66) rfl rfl Try.func156 (by kernel_rfl) rfl #[.int .i64 x362000_1, .int .i64 x4_1] rfl (by (try simp only [List.map_toArray, List.map_cons, List.map_nil]); first | done | rfl) ?_; (with_reducible refine (xU.calls x362000_1 x4_1 t370 _ A54.out).mono ?_); rintro e w' ⟨rfl, ⟨nd, rfl⟩⟩; refine ⟨_, rfl, ?_⟩; (try (rw [drewN_self wr]; generalize hq_ : World.drewN wr _ = wr; have n0_ : zC (wr.heap[gb360]? = some (.cells #[.int .i64 0, .int .i64 0, .int .i64 0] 28 (0, 0))) := ⟨by rw [← hq_]; exact (by (with_reducible repeat (first | refine zE ?_ _ | refine zI ?_ | refine zD ?_ _)); exact BK360.out)⟩; have n1_ : zC (wr.heap[gb361]? = some (.cells #[.int .i64 x362000_1, .int .i64 x362001_1] 38 (0, 0))) := ⟨by rw [← hq_]; exact (by (with_reducible repeat (first | refine zE ?_ _ | refine zI ?_ | refine zD ?_ _)); exact BK361.out)⟩; have n2_ : zC (Below w.heap.size w wr) := ⟨by rw [← hq_]; exact (by repeat (first | (with_reducible first | exact HB.out | apply zG | apply zA | apply zF | refine zH ?_ GE360.out | refine zH ?_ GE361.out) | exact HB.out))⟩; clear BK360 BK361 HB hq_; have BK360 := n0_; have BK361 := n1_; have HB := n2_; clear n0_ n1_ n2_)); have hcz57_0 : wr.cell? ⟨gb361, 0, none⟩ = some (.int .i64 x362000_1) := zB BK361.out 0; have hcz57_1 : wr.cell? ⟨gb361, 1, none⟩ = some (.int .i64 x362001_1) := zB BK361.out 1; have hfz57_0 := zJ BK361.out 0; have hfz57_1 := zJ BK361.out 1; have hcz58_0 : wr.cell? ⟨gb360, 0, none⟩ = some (.int .i64 0) := zB BK360.out 0; have hcz58_1 : wr.cell? ⟨gb360, 1, none⟩ = some (.int .i64 0) := zB BK360.out 1; have hcz58_2 : wr.cell? ⟨gb360, 2, none⟩ = some (.int .i64 0) := zB BK360.out 2; have hfz58_0 := zJ BK360.out 0; have hfz58_1 := zJ BK360.out 1; have hfz58_2 := zJ BK360.out 2))
      refine bodyPost_ret (results_cell_row rfl _ _ gb360 28 #[.int .i64 x4_1, .int .i64 t370, .int .i64 x362001_1] (0, 0) _ rfl (by (with_reducible repeat (first | refine zE ?_ _ | refine zI ?_ | refine zD ?_ _)); refine zU (cs := #[.int .i64 x4_1, .int .i64 t370, .int .i64 0]) ?_ 2 _ rfl; (with_reducible repeat (first | refine zE ?_ _ | refine zI ?_ | refine zD ?_ _)); refine zU (cs := #[.int .i64 x4_1, .int .i64 0, .int .i64 0]) ?_ 1 _ rfl; (with_reducible repeat (first | refine zE ?_ _ | refine zI ?_ | refine zD ?_ _)); refine zU (cs := #[.int .i64 0, .int .i64 0, .int .i64 0]) ?_ 0 _ rfl; (with_reducible repeat (first | refine zE ?_ _ | refine zI ?_ | refine zD ?_ _)); refine zW ?_ NB360_361.out _; (with_reducible repeat (first | refine zE ?_ _ | refine zI ?_ | refine zD ?_ _)); exact BK360.out) Try.underlying28 rfl (by kernel_rfl)) rfl ?_
      exact ⟨by first | rfl | (simp [*, errW_none, errW_some] <;> rfl), by repeat (first | (with_reducible first | exact HB.out | apply zG | apply zA | apply zF | refine zH ?_ GE360.out | refine zH ?_ GE361.out) | exact HB.out)⟩
     ·
      rw [if_neg c53] at H
      have c53b0 : decide (0 < x4_1) = false := decide_eq_false c53
      clear c53
      simp only [Option.some.injEq, Prod.mk.injEq] at H
      obtain ⟨rfl, rfl, rfl⟩ := H
      have hnb59 := NB361_360.out
      have hnc59 := NB360_361.out
      have hcz60_0 : wr.cell? ⟨gb361, 0, none⟩ = some (.int .i64 x362000_1) := zB BK361.out 0
      have hcz60_1 : wr.cell? ⟨gb361, 1, none⟩ = some (.int .i64 x362001_1) := zB BK361.out 1
      have hfz60_0 := zJ BK361.out 0
      have hfz60_1 := zJ BK361.out 1
      have hcz61_0 : wr.cell? ⟨gb360, 0, none⟩ = some (.int .i64 0) := zB BK360.out 0
      have hcz61_1 : wr.cell? ⟨gb360, 1, none⟩ = some (.int .i64 0) := zB BK360.out 1
      have hcz61_2 : wr.cell? ⟨gb360, 2, none⟩ = some (.int .i64 0) := zB BK360.out 2
      have hfz61_0 := zJ BK360.out 0
      have hfz61_1 := zJ BK360.out 1
      have hfz61_2 := zJ BK360.out 2
      go_wp2
      refine bodyPost_ret (results_cell_row rfl _ _ gb360 28 #[.int .i64 x4_1, .int .i64 x362000_1, .int .i64 x362001_1] (0, 0) _ rfl (by (with_reducible repeat (first | refine zE ?_ _ | refine zI ?_ | refine zD ?_ _)); refine zU (cs := #[.int .i64 x4_1, .int .i64 x362000_1, .int .i64 0]) ?_ 2 _ rfl; (with_reducible repeat (first | refine zE ?_ _ | refine zI ?_ | refine zD ?_ _)); refine zU (cs := #[.int .i64 x4_1, .int .i64 0, .int .i64 0]) ?_ 1 _ rfl; (with_reducible repeat (first | refine zE ?_ _ | refine zI ?_ | refine zD ?_ _)); refine zU (cs := #[.int .i64 0, .int .i64 0, .int .i64 0]) ?_ 0 _ rfl; (with_reducible repeat (first | refine zE ?_ _ | refine zI ?_ | refine zD ?_ _)); exact BK360.out) Try.underlying28 rfl (by kernel_rfl)) rfl ?_
      exact ⟨by first | rfl | (simp [*, errW_none, errW_some] <;> rfl), by repeat (first | (with_reducible first | exact HB.out | apply zG | apply zA | apply zF | refine zH ?_ GE360.out | refine zH ?_ GE361.out) | exact HB.out)⟩
def yU.T6 : Bool × List (List Nat × List Nat) := (true, [([], []), ([], []), ([], []), ([], []), ([2, 3], [2, 3]), ([4], [4]), ([1, 5], [1, 5]), ([0, 6, 1], [0, 6])])
def yU.B6 : List Nat := [0, 0, 0, 0, 12, 28, 62, 127]
theorem yU.tab6 : rtab .any (opsOf Try.f144 6) = yU.T6 := by kernel_rfl
theorem yU.bits6 : waitsOk yU.T6.2 yU.B6 = true := by kernel_rfl
theorem yU.calls (k : Nat) (a0_0 : Int) (a0_1 : Int) (a0_2 : Int) (a0_3 : Int) (A0_4 : Option Addr) (c0_4 : Nat) (l0_4 : List Int) (r1 : Int) (r2 : Int) (r3 : Int) (w : World) (hr0_4 : Kd.C (Kd.int .i64) w A0_4 l0_4.length l0_4) (hc0_4 : l0_4.length ≤ c0_4) (h : yU.f k a0_0 a0_1 a0_2 a0_3 l0_4 = some (r1, r2, r3)) :
  Calls Try.prog 144 #[.agg #[.int .i64 a0_0, .int .i64 a0_1, .int .i64 a0_2, .int .i64 a0_3, .slice A0_4 l0_4.length c0_4]] w fun e w' => e = .returned (.agg #[.int .i64 r1, .int .i64 r2, .int .i64 r3]) ∧ Below w.heap.size w w' := by
 have hu30 := Try.underlying30
 have hu28 := Try.underlying28
 have hu38 := Try.underlying38
 have hu90 := Try.underlying90
 have HR0_4 := zC.mk hr0_4
 have HC0_4 := zC.mk hc0_4
 clear hr0_4 hc0_4
 have HB := zC.mk (Below.refl w.heap.size w)
 have H : ((yM.f k a0_1 a0_2 a0_3).bind fun t1336 => ((wM.f a0_1 a0_2 a0_3).bind fun t1339 => (yU.l0 k t1336 t1339 0 a0_0 a0_1 a0_2 a0_3 l0_4))) = some (r1, r2, r3) := h
 clear h
 replace H := Option.bind_eq_some_iff.mp H
 obtain ⟨t1336, A20, H⟩ := H
 replace H : ((wM.f a0_1 a0_2 a0_3).bind fun t1339 => (yU.l0 k t1336 t1339 0 a0_0 a0_1 a0_2 a0_3 l0_4)) = some (r1, r2, r3) := H
 have A2 := zC.mk A20
 clear A20
 replace H := Option.bind_eq_some_iff.mp H
 obtain ⟨t1339, A30, H⟩ := H
 replace H : (yU.l0 k t1336 t1339 0 a0_0 a0_1 a0_2 a0_3 l0_4) = some (r1, r2, r3) := H
 have A3 := zC.mk A30
 clear A30
 have H' := zC.mk H
 clear H
 go_enter Try.func144, Try.ntmps144
 go_wp2_with (first | ((with_reducible refine zP (N := 1) rfl ?_); refine zO ?hg (N := 1) ?hd (cs := #[.int .i64 a0_0, .int .i64 a0_1, .int .i64 a0_2, .int .i64 a0_3, .slice A0_4 l0_4.length c0_4]) (t := 30) ?hr ?_; (case hd => rfl); (case hg => rfl); (case hr => first | (go_simp; done) | (go_simp; rfl)); intro gb1334 hg w4 hbox hb; have n0_ := zC.mk (zL (by repeat (first | (with_reducible first | exact HB.out | apply zG | apply zA | apply zF) | exact HB.out)) hb); have n1_ := zC.mk (hbox); have n2_ := zC.mk ((by rw [hg]; exact (zM (by repeat (first | (with_reducible first | exact HB.out | apply zG | apply zA | apply zF) | exact HB.out))) : w.heap.size ≤ gb1334)); have n3_ := n2_; clear HB; have HB := n0_; have BK1334 := n1_; have GW1334 := n2_; have GE1334 := n3_; clear n0_ n1_ n2_ n3_; clear hb hbox hg) | ((with_reducible refine zP (N := 2) rfl ?_); refine zO ?hg (N := 2) ?hd (cs := #[.int .i64 0, .int .i64 0, .int .i64 0]) (t := 28) ?hr ?_; (case hd => rfl); (case hg => rfl); (case hr => first | (go_simp; done) | (go_simp; rfl)); intro gb1335 hg w5 hbox hb; have n0_ := zC.mk (zK (g := gb1334) (o := .cells #[.int .i64 a0_0, .int .i64 a0_1, .int .i64 a0_2, .int .i64 a0_3, .slice A0_4 l0_4.length c0_4] 30 (0, 0)) (by (with_reducible repeat (first | refine zE ?_ _ | refine zI ?_ | refine zD ?_ _)); exact BK1334.out) hb); have n1_ := zC.mk (zL (by repeat (first | (with_reducible first | exact HB.out | apply zG | apply zA | apply zF | refine zH ?_ GE1334.out) | exact HB.out)) hb); have n2_ := zC.mk (hbox); have n3_ := zC.mk ((by rw [hg]; exact (zM (by repeat (first | (with_reducible first | exact HB.out | apply zG | apply zA | apply zF | refine zH ?_ GE1334.out) | exact HB.out))) : w.heap.size ≤ gb1335)); have n4_ := n3_; have n5_ := zC.mk ((by rw [hg]; exact Nat.ne_of_lt (zX (by (with_reducible repeat (first | refine zE ?_ _ | refine zI ?_ | refine zD ?_ _)); exact BK1334.out)) : gb1334 ≠ gb1335)); have n6_ := zC.mk n5_.out.symm; clear BK1334; clear HB; have BK1334 := n0_; have HB := n1_; have BK1335 := n2_; have GW1335 := n3_; have GE1335 := n4_; have NB1334_1335 := n5_; have NB1335_1334 := n6_; clear n0_ n1_ n2_ n3_ n4_ n5_ n6_; clear hb hbox hg; have hnb6 := NB1334_1335.out; have hnc6 := NB1335_1334.out; have hcz7_0 : w5.cell? ⟨gb1334, 0, none⟩ = some (.int .i64 a0_0) := zB BK1334.out 0; have hcz7_1 : w5.cell? ⟨gb1334, 1, none⟩ = some (.int .i64 a0_1) := zB BK1334.out 1; have hcz7_2 : w5.cell? ⟨gb1334, 2, none⟩ = some (.int .i64 a0_2) := zB BK1334.out 2; have hcz7_3 : w5.cell? ⟨gb1334, 3, none⟩ = some (.int .i64 a0_3) := zB BK1334.out 3; have hcz7_4 : w5.cell? ⟨gb1334, 4, none⟩ = some (.slice A0_4 l0_4.length c0_4) := zB BK1334.out 4; have hfz7_0 := zJ BK1334.out 0; have hfz7_1 := zJ BK1334.out 1; have hfz7_2 := zJ BK1334.out 2; have hfz7_3 := zJ BK1334.out 3; have hfz7_4 := zJ BK1334.out 4) | ((with_reducible refine zS (f := 74) rfl ?_); refine zZ (some 8) rfl rfl Try.func74 (by kernel_rfl) rfl #[.agg #[.int .i64 a0_1, .int .i64 a0_2, .int .i64 a0_3]] rfl (by (try simp only [List.map_toArray, List.map_cons, List.map_nil]); first | done | rfl) ?_; (with_reducible refine (yM.calls k a0_1 a0_2 a0_3 t1336 _ A2.out).mono ?_); rintro e w8 ⟨v1337, rfl, ho0, hb⟩; refine ⟨_, rfl, ?_⟩; have n0_ := zC.mk (Kd.R_lower ho0 (zM (by repeat (first | (with_reducible first | exact HB.out | apply zG | apply zA | apply zF | refine zH ?_ GE1334.out | refine zH ?_ GE1335.out) | exact HB.out)))); have n1_ := zC.mk (zK (g := gb1334) (o := .cells #[.int .i64 a0_0, .int .i64 a0_1, .int .i64 a0_2, .int .i64 a0_3, .slice A0_4 l0_4.length c0_4] 30 (0, 0)) (by (with_reducible repeat (first | refine zE ?_ _ | refine zI ?_ | refine zD ?_ _)); exact BK1334.out) hb); have n2_ := zC.mk (zK (g := gb1335) (o := .cells #[.int .i64 0, .int .i64 0, .int .i64 0] 28 (0, 0)) (by (with_reducible repeat (first | refine zE ?_ _ | refine zI ?_ | refine zD ?_ _)); exact BK1335.out) hb); have n3_ := zC.mk (zL (by repeat (first | (with_reducible first | exact HB.out | apply zG | apply zA | apply zF | refine zH ?_ GE1334.out | refine zH ?_ GE1335.out) | exact HB.out)) hb); clear BK1334; clear BK1335; clear HB; have HO1338 := n0_; have BK1334 := n1_; have BK1335 := n2_; have HB := n3_; clear n0_ n1_ n2_ n3_; (try clear hb); (try clear ho0); have hcz9_0 : w8.cell? ⟨gb1334, 0, none⟩ = some (.int .i64 a0_0) := zB BK1334.out 0; have hcz9_1 : w8.cell? ⟨gb1334, 1, none⟩ = some (.int .i64 a0_1) := zB BK1334.out 1; have hcz9_2 : w8.cell? ⟨gb1334, 2, none⟩ = some (.int .i64 a0_2) := zB BK1334.out 2; have hcz9_3 : w8.cell? ⟨gb1334, 3, none⟩ = some (.int .i64 a0_3) := zB BK1334.out 3; have hcz9_4 : w8.cell? ⟨gb1334, 4, none⟩ = some (.slice A0_4 l0_4.length c0_4) := zB BK1334.out 4; have hfz9_0 := zJ BK1334.out 0; have hfz9_1 := zJ BK1334.out 1; have hfz9_2 := zJ BK1334.out 2; have hfz9_3 := zJ BK1334.out 3; have hfz9_4 := zJ BK1334.out 4) | ((with_reducible refine zS (f := 162) rfl ?_); refine zZ (some 11) rfl rfl Try.func162 (by kernel_rfl) rfl #[.agg #[.int .i64 a0_1, .int .i64 a0_2, .int .i64 a0_3]] rfl (by (try simp only [List.map_toArray, List.map_cons, List.map_nil]); first | done | rfl) ?_; (with_reducible refine (wM.calls a0_1 a0_2 a0_3 t1339 _ A3.out).mono ?_); rintro e w10 ⟨v1340, rfl, ho0, hb⟩; refine ⟨_, rfl, ?_⟩; have n0_ := zC.mk (Kd.R_elder' (by (with_reducible repeat (first | apply Kd.R_alloc | apply Kd.R_drewN | apply Kd.R_drew)); exact HO1338.out) (Kd.R_base ho0) hb); have n1_ := zC.mk (Kd.R_lower (Kd.R_new' ho0 (Kd.R_lt (by (with_reducible repeat (first | apply Kd.R_alloc | apply Kd.R_drewN | apply Kd.R_drew)); exact HO1338.out))) (zM (by repeat (first | (with_reducible first | exact HB.out | apply zG | apply zA | apply zF | refine zH ?_ GE1334.out | refine zH ?_ GE1335.out) | exact HB.out)))); have n2_ := zC.mk (zK (g := gb1334) (o := .cells #[.int .i64 a0_0, .int .i64 a0_1, .int .i64 a0_2, .int .i64 a0_3, .slice A0_4 l0_4.length c0_4] 30 (0, 0)) (by (with_reducible repeat (first | refine zE ?_ _ | refine zI ?_ | refine zD ?_ _)); exact BK1334.out) hb); have n3_ := zC.mk (zK (g := gb1335) (o := .cells #[.int .i64 0, .int .i64 0, .int .i64 0] 28 (0, 0)) (by (with_reducible repeat (first | refine zE ?_ _ | refine zI ?_ | refine zD ?_ _)); exact BK1335.out) hb); have n4_ := zC.mk (zL (by repeat (first | (with_reducible first | exact HB.out | apply zG | apply zA | apply zF | refine zH ?_ GE1334.out | refine zH ?_ GE1335.out) | exact HB.out)) hb); clear HO1338; clear BK1334; clear BK1335; clear HB; have HO1338 := n0_; have HO1341 := n1_; have BK1334 := n2_; have BK1335 := n3_; have HB := n4_; clear n0_ n1_ n2_ n3_ n4_; (try clear hb); (try clear ho0)))
 go_loopg [4, 5] k (fun kq v4 v5 w' => ∃ (x4_1 : List (S38)) (x5_1 : Int), v5 = .int .i64 x5_1 ∧ zC (yU.l0 kq t1336 x4_1 x5_1 a0_0 a0_1 a0_2 a0_3 l0_4 = some (r1, r2, r3)) ∧ zC (kq ≤ k) ∧ zC (Kd.R k38 38 w' w.heap.size (fun k_ => some k_ ≠ (v4 : Value).ownBlock) v1337 t1336) ∧ zC (Kd.R k38 38 w' w.heap.size (fun k_ => some k_ ≠ (v1337 : Value).ownBlock) v4 x4_1) ∧ zC (w'.heap[gb1334]? = some (.cells #[.int .i64 a0_0, .int .i64 a0_1, .int .i64 a0_2, .int .i64 a0_3, (.slice A0_4 l0_4.length c0_4)] 30 (0, 0))) ∧ zC (w'.heap[gb1335]? = some (.cells #[.int .i64 0, .int .i64 0, .int .i64 0] 28 (0, 0))) ∧ zC (Below w.heap.size w w'))
 case atStart => exact ⟨(t1339), (0), (by first | rfl | (simp; done) | (simp [*]; done)), H', ⟨Nat.le_refl _⟩, ⟨by (with_reducible repeat (first | apply Kd.R_alloc | apply Kd.R_drewN | apply Kd.R_drew)); exact Kd.R_mono HO1338.out (fun _ hk => hk.2)⟩, ⟨by (with_reducible repeat (first | apply Kd.R_alloc | apply Kd.R_drewN | apply Kd.R_drew)); exact Kd.R_mono HO1341.out (fun _ hk => hk.2)⟩, ⟨by (with_reducible repeat (first | refine zE ?_ _ | refine zI ?_ | refine zD ?_ _)); exact BK1334.out⟩, ⟨by (with_reducible repeat (first | refine zE ?_ _ | refine zI ?_ | refine zD ?_ _)); exact BK1335.out⟩, ⟨by repeat (first | (with_reducible first | exact HB.out | apply zG | apply zA | apply zF | refine zH ?_ GE1334.out | refine zH ?_ GE1335.out) | exact HB.out)⟩⟩
 case round =>
  clear H'
  try clear c1
  try clear p2
  try clear c6
  try clear c7
  try clear hcz7_0
  try clear hcz7_1
  try clear hcz7_2
  try clear hcz7_3
  try clear hcz7_4
  try clear hcz9_0
  try clear hcz9_1
  try clear hcz9_2
  try clear hcz9_3
  try clear hcz9_4
  try clear hfz7_0
  try clear hfz7_1
  try clear hfz7_2
  try clear hfz7_3
  try clear hfz7_4
  try clear hfz9_0
  try clear hfz9_1
  try clear hfz9_2
  try clear hfz9_3
  try clear hfz9_4
  obtain ⟨x4_1, x5_1, rfl, HA, HK1, HO_3, HO_4, BK1334, BK1335, HB⟩ := hrel
  cases gk with
  | zero => exact absurd HA.out (by simp [yU.l0])
  | succ k1 =>
   have H := HA.out
   clear HA
   simp only [yU.l0] at H
   by_cases c11 : x5_1 < (t1336.length : Int)
   ·
    rw [if_pos c11] at H
    have c11b0 : decide (x5_1 < (t1336.length : Int)) = true := decide_eq_true c11
    clear c11
    replace H := Option.bind_eq_some_iff.mp H
    obtain ⟨⟨t1345, t1346, t1347, t1348⟩, A120, H⟩ := H
    replace H : (if 0 ≤ x5_1 then ((yT.f k1 a0_0 a0_1 a0_2 a0_3 l0_4 t1345 t1346 t1347 t1348 ((rd_T38 t1336 x5_1).f0) ((rd_T38 t1336 x5_1).f1)).bind fun t1350 => (if t1350 = true then (if x4_1.length < 8796093022208 then (yU.l0 k1 t1336 (x4_1 ++ [(⟨(rd_T38 t1336 x5_1).f0, (rd_T38 t1336 x5_1).f1⟩ : S38)]) (wrap64 (x5_1 + 1)) a0_0 a0_1 a0_2 a0_3 l0_4) else (none)) else (yU.l0 k1 t1336 x4_1 (wrap64 (x5_1 + 1)) a0_0 a0_1 a0_2 a0_3 l0_4))) else (none)) = some (r1, r2, r3) := H
    have A12 := zC.mk A120
    clear A120
    by_cases c13 : 0 ≤ x5_1
    ·
     rw [if_pos c13] at H
     have c13b0 : decide (0 ≤ x5_1) = true := decide_eq_true c13
     clear c13
     replace H := Option.bind_eq_some_iff.mp H
     obtain ⟨t1350, A140, H⟩ := H
     replace H : (if t1350 = true then (if x4_1.length < 8796093022208 then (yU.l0 k1 t1336 (x4_1 ++ [(⟨(rd_T38 t1336 x5_1).f0, (rd_T38 t1336 x5_1).f1⟩ : S38)]) (wrap64 (x5_1 + 1)) a0_0 a0_1 a0_2 a0_3 l0_4) else (none)) else (yU.l0 k1 t1336 x4_1 (wrap64 (x5_1 + 1)) a0_0 a0_1 a0_2 a0_3 l0_4)) = some (r1, r2, r3) := H
     have A14 := zC.mk A140
     clear A140
     have HX15 := zC.mk H
     clear H
     obtain ⟨Ao16, co16, eo16⟩ := Kd.R_slice HO_3.out
     subst eo16
     try go_wp2
     have n0_ := zC.mk (Kd.R_drew HO_3.out)
     have n1_ := zC.mk (Kd.R_drew HO_4.out)
     have n2_ := zC.mk (zI BK1334.out)
     have n3_ := zC.mk (zI BK1335.out)
     have n4_ := zC.mk (zF HB.out)
     clear HO_3
     clear HO_4
     clear BK1334
     clear BK1335
     clear HB
     have HO_3 := n0_
     have HO_4 := n1_
     have BK1334 := n2_
     have BK1335 := n3_
     have HB := n4_
     clear n0_ n1_ n2_ n3_ n4_
     have p1349 : 0 ≤ (x5_1 : Int) := of_decide_eq_true (by first | (with_reducible assumption) | assumption)
     have q1349 : x5_1 < (t1336.length : Int) := of_decide_eq_true (by first | (with_reducible assumption) | assumption)
     obtain ⟨ad1349, e1349, hx1349_0, hx1349_1⟩ := at_T38 (Kd.R_reads' HO_3.out).2.2 x5_1 p1349 q1349
     cases e1349
     replace p1349 := eq_true p1349
     replace q1349 := eq_true q1349
     refine start_ (n := 8) (S := fun w' => w'.cell? ⟨gb1334, 0, none⟩ = some (.int .i64 a0_0) ∧ w'.cell? ⟨gb1334, 1, none⟩ = some (.int .i64 a0_1) ∧ w'.cell? ⟨gb1334, 2, none⟩ = some (.int .i64 a0_2) ∧ w'.cell? ⟨gb1334, 3, none⟩ = some (.int .i64 a0_3) ∧ w'.cell? ⟨gb1334, 4, none⟩ = some (.slice A0_4 l0_4.length c0_4) ∧ w'.cell? (ad1349.add ((x5_1).toNat * 2)) = some (.int .i64 ((rd_T38 t1336 x5_1).f0)) ∧ w'.cell? ⟨(ad1349.add ((x5_1).toNat * 2)).block, (ad1349.add ((x5_1).toNat * 2)).off + 1, none⟩ = some (.int .i64 ((rd_T38 t1336 x5_1).f1))) (ds := []) #[false, false, false, false, false, false, false, false] (by kernel_rfl) rfl rfl ⟨zB BK1334.out 0, zB BK1334.out 1, zB BK1334.out 2, zB BK1334.out 3, zB BK1334.out 4, hx1349_0, hx1349_1⟩ (fun hHeld => ?_); refine yE yU.tab6 yU.bits6 (fun HT_ HW_ => ?_)
     generalize wr.drew = w17 at HO_3 HO_4 BK1334 BK1335 HB hx1349_0 hx1349_1 hHeld ⊢
     refine zT (i := 2) (N := some 20) (v := ?_) (a' := ?_) #[false, false, true, false, false, false, false, false] rfl rfl (zN HT_.out (by kernel_rfl)) (fun _ _ _ h => h) (Or.inl ⟨by rfl, ?_⟩) ?_ ?_
     rotate_left
     ·
      intro w'
      go_simp
      with_reducible rfl
     rotate_left
     ·
      simp only [Act.put, List.setIfInBounds_toArray, List.set_cons_zero, List.set_cons_succ, zQ, zR]
      rfl
     refine zT (i := 3) (N := some 21) (v := ?_) (a' := ?_) #[false, false, true, true, false, false, false, false] rfl rfl (zN HT_.out (by kernel_rfl)) (fun _ _ _ h => h) (Or.inl ⟨by rfl, ?_⟩) ?_ ?_
     rotate_left
     ·
      intro w'
      go_simp
      with_reducible rfl
     rotate_left
     ·
      simp only [Act.put, List.setIfInBounds_toArray, List.set_cons_zero, List.set_cons_succ, zQ, zR]
      rfl
     refine zT (i := 4) (N := some 22) (v := ?_) (a' := ?_) #[false, false, true, true, true, false, false, false] rfl rfl (zN HT_.out (by kernel_rfl)) (fun _ _ _ h => h) (Or.inl ⟨by rfl, ?_⟩) ?_ ?_
     rotate_left
     ·
      intro w'
      go_simp
      with_reducible rfl
     rotate_left
     ·
      simp only [Act.put, List.setIfInBounds_toArray, List.set_cons_zero, List.set_cons_succ, zQ, zR]
      rfl
     refine yC (i := 0) (N := some 18) (v := ?_) (a' := ?_) #[true, false, true, true, true, false, false, false] rfl rfl (zY HT_.out HW_.out (by kernel_rfl)) (fun _ _ _ h => h) (Or.inl ⟨by rfl, ?_⟩) hHeld ?_ ?_
     rotate_left
     ·
      rintro w' ⟨s0, s1, s2, s3, s4, s5, s6⟩
      go_simp
      with_reducible rfl
     rotate_left
     ·
      simp only [Act.put, List.setIfInBounds_toArray, List.set_cons_zero, List.set_cons_succ, zQ, zR]
      rfl
     refine yC (i := 5) (N := some 23) (v := ?_) (a' := ?_) #[true, false, true, true, true, true, false, false] rfl rfl (zY HT_.out HW_.out (by kernel_rfl)) (fun _ _ _ h => h) (Or.inl ⟨by rfl, ?_⟩) hHeld ?_ ?_
     rotate_left
     ·
      rintro w' ⟨s0, s1, s2, s3, s4, s5, s6⟩
      go_simp
      with_reducible rfl
     rotate_left
     ·
      simp only [Act.put, List.setIfInBounds_toArray, List.set_cons_zero, List.set_cons_succ, zQ, zR]
      rfl
     refine one_ (i := 1) (N := some 19) #[true, true, true, true, true, true, false, false] rfl rfl (yB HT_.out (by kernel_rfl)) (by decide) (fun K hK => ?_)
     refine yD Try.func77 (by kernel_rfl) rfl #[] (by rfl) rfl rfl (by (try simp only [List.map_toArray, List.map_cons, List.map_nil]); first | done | rfl) ?_
     with_reducible refine (wV.calls  t1345 t1346 t1347 t1348 _ A12.out).mono ?_
     rintro e w18 ⟨rfl, hb⟩
     have HS5_ := (hb.cell (World.block_lt_of_cell? _ _ (hHeld.2.2.2.2.2.1))).trans (hHeld.2.2.2.2.2.1)
     have HS6_ := (hb.cell (World.block_lt_of_cell? _ _ (hHeld.2.2.2.2.2.2))).trans (hHeld.2.2.2.2.2.2)
     refine ⟨_, rfl, ?_⟩
     have n0_ := zC.mk (Kd.R_below (by (with_reducible repeat (first | apply Kd.R_alloc | apply Kd.R_drewN | apply Kd.R_drew)); exact HO_3.out) hb)
     have n1_ := zC.mk (Kd.R_below (by (with_reducible repeat (first | apply Kd.R_alloc | apply Kd.R_drewN | apply Kd.R_drew)); exact HO_4.out) hb)
     have n2_ := zC.mk (zK (g := gb1334) (o := .cells #[.int .i64 a0_0, .int .i64 a0_1, .int .i64 a0_2, .int .i64 a0_3, .slice A0_4 l0_4.length c0_4] 30 (0, 0)) (by (with_reducible repeat (first | refine zE ?_ _ | refine zI ?_ | refine zD ?_ _)); exact BK1334.out) hb)
     have n3_ := zC.mk (zK (g := gb1335) (o := .cells #[.int .i64 0, .int .i64 0, .int .i64 0] 28 (0, 0)) (by (with_reducible repeat (first | refine zE ?_ _ | refine zI ?_ | refine zD ?_ _)); exact BK1335.out) hb)
     have n4_ := zC.mk (zL (by repeat (first | (with_reducible first | exact HB.out | apply zG | apply zA | apply zF | refine zH ?_ GE1334.out | refine zH ?_ GE1335.out) | exact HB.out)) hb)
     clear HO_3
     clear HO_4
     clear BK1334
     clear BK1335
     clear HB
     have HO_3 := n0_
     have HO_4 := n1_
     have BK1334 := n2_
     have BK1335 := n3_
     have HB := n4_
     clear n0_ n1_ n2_ n3_ n4_
     (try clear hb)
     refine hK.out _ _ ⟨zB BK1334.out 0, zB BK1334.out 1, zB BK1334.out 2, zB BK1334.out 3, zB BK1334.out 4, HS5_, HS6_⟩ (fun hHeld => ?_)
     clear hK K
     refine yA (a' := ?_) ?_ ?_
     rotate_left
     ·
      show Act.put _ (some 19) _ = _
      simp only [Act.put, List.setIfInBounds_toArray, List.set_cons_zero, List.set_cons_succ, zQ, zR]
      rfl
     refine zT (i := 6) (N := some 24) (v := ?_) (a' := ?_) #[true, true, true, true, true, true, true, false] rfl rfl (zN HT_.out (by kernel_rfl)) (fun _ _ _ h => h) (Or.inl ⟨by rfl, ?_⟩) ?_ ?_
     rotate_left
     ·
      intro w'
      go_simp
      with_reducible rfl
     rotate_left
     ·
      simp only [Act.put, List.setIfInBounds_toArray, List.set_cons_zero, List.set_cons_succ, zQ, zR]
      rfl
     refine one_ (i := 7) (N := some 25) #[true, true, true, true, true, true, true, true] rfl rfl (yB HT_.out (by kernel_rfl)) (by decide) (fun K hK => ?_)
     refine yD Try.func146 (by kernel_rfl) rfl #[.agg #[.int .i64 a0_0, .int .i64 a0_1, .int .i64 a0_2, .int .i64 a0_3, .slice A0_4 l0_4.length c0_4], .agg #[.int .i64 t1345, .int .i64 t1346, .int .i64 t1347, .int .i64 t1348, .int .i64 ((rd_T38 t1336 x5_1).f0), .int .i64 ((rd_T38 t1336 x5_1).f1)]] (by rfl) rfl rfl (by (try simp only [List.map_toArray, List.map_cons, List.map_nil]); first | done | rfl) ?_
     with_reducible refine (yT.calls k1 a0_0 a0_1 a0_2 a0_3 _ _ l0_4 t1345 t1346 t1347 t1348 ((rd_T38 t1336 x5_1).f0) ((rd_T38 t1336 x5_1).f1) t1350 _ ?side1 ?side2 A14.out).mono ?_
     (case side1 => repeat (first | exact (Kd.C_below HR0_4.out HB.out) | (with_reducible refine Kd.C_alloc ?_ _) | (with_reducible refine Kd.C_drewN ?_ _) | (with_reducible refine Kd.C_drew ?_)))
     (case side2 => exact HC0_4.out)
     rintro e w19 ⟨rfl, hb⟩
     have HS5_ := (hb.cell (World.block_lt_of_cell? _ _ (hHeld.2.2.2.2.2.1))).trans (hHeld.2.2.2.2.2.1)
     have HS6_ := (hb.cell (World.block_lt_of_cell? _ _ (hHeld.2.2.2.2.2.2))).trans (hHeld.2.2.2.2.2.2)
     refine ⟨_, rfl, ?_⟩
     have n0_ := zC.mk (Kd.R_below (by (with_reducible repeat (first | apply Kd.R_alloc | apply Kd.R_drewN | apply Kd.R_drew)); exact HO_3.out) hb)
     have n1_ := zC.mk (Kd.R_below (by (with_reducible repeat (first | apply Kd.R_alloc | apply Kd.R_drewN | apply Kd.R_drew)); exact HO_4.out) hb)
     have n2_ := zC.mk (zK (g := gb1334) (o := .cells #[.int .i64 a0_0, .int .i64 a0_1, .int .i64 a0_2, .int .i64 a0_3, .slice A0_4 l0_4.length c0_4] 30 (0, 0)) (by (with_reducible repeat (first | refine zE ?_ _ | refine zI ?_ | refine zD ?_ _)); exact BK1334.out) hb)
     have n3_ := zC.mk (zK (g := gb1335) (o := .cells #[.int .i64 0, .int .i64 0, .int .i64 0] 28 (0, 0)) (by (with_reducible repeat (first | refine zE ?_ _ | refine zI ?_ | refine zD ?_ _)); exact BK1335.out) hb)
     have n4_ := zC.mk (zL (by repeat (first | (with_reducible first | exact HB.out | apply zG | apply zA | apply zF | refine zH ?_ GE1334.out | refine zH ?_ GE1335.out) | exact HB.out)) hb)
     clear HO_3
     clear HO_4
     clear BK1334
     clear BK1335
     clear HB
     have HO_3 := n0_
     have HO_4 := n1_
     have BK1334 := n2_
     have BK1335 := n3_
     have HB := n4_
     clear n0_ n1_ n2_ n3_ n4_
     (try clear hb)
     refine hK.out _ _ ⟨zB BK1334.out 0, zB BK1334.out 1, zB BK1334.out 2, zB BK1334.out 3, zB BK1334.out 4, HS5_, HS6_⟩ (fun hHeld => ?_)
     clear hK K
     refine yA (a' := ?_) ?_ ?_
     rotate_left
     ·
      show Act.put _ (some 25) _ = _
      simp only [Act.put, List.setIfInBounds_toArray, List.set_cons_zero, List.set_cons_succ, zQ, zR]
      rfl
     refine done_ (done_of HT_.out (by kernel_rfl)) ?_
     go_upto_if 25 with (fail)
     have H := HX15.out
     clear HX15
     by_cases c20 : t1350 = true
     ·
      subst c20
      have H1 : (if x4_1.length < 8796093022208 then (yU.l0 k1 t1336 (x4_1 ++ [(⟨(rd_T38 t1336 x5_1).f0, (rd_T38 t1336 x5_1).f1⟩ : S38)]) (wrap64 (x5_1 + 1)) a0_0 a0_1 a0_2 a0_3 l0_4) else (none)) = some (r1, r2, r3) := by rw [if_pos rfl] at H; exact H
      clear H
      have H := H1
      clear H1
      by_cases c21 : x4_1.length < 8796093022208
      ·
       rw [if_pos c21] at H
       have LMc21 := zC.mk c21
       clear c21
       obtain ⟨y1352, hy1352⟩ : ∃ y_ : List (S38), y_ = (x4_1 ++ [(⟨(rd_T38 t1336 x5_1).f0, (rd_T38 t1336 x5_1).f1⟩ : S38)]) := ⟨_, rfl⟩
       replace H : (yU.l0 k1 t1336 y1352 (wrap64 (x5_1 + 1)) a0_0 a0_1 a0_2 a0_3 l0_4) = some (r1, r2, r3) := by first | (rw [hy1352]; with_reducible exact H) | (have H2_ := (Option.bind_some _ _).symm.trans H; rw [hy1352]; with_reducible exact H2_) | (have H2_ := (Option.bind_some _ _).symm.trans H; with_reducible exact H2_) | with_reducible exact H | (rw [hy1352]; exact H) | exact H
       have Ny1352 := zC.mk hy1352
       clear hy1352
       have H' := zC.mk H
       clear H
       have p1351 : 0 ≤ (x5_1 : Int) := of_decide_eq_true (by first | (with_reducible assumption) | assumption)
       have q1351 : x5_1 < (t1336.length : Int) := of_decide_eq_true (by first | (with_reducible assumption) | assumption)
       obtain ⟨ad1351, e1351, hx1351_0, hx1351_1⟩ := at_T38 (Kd.R_reads' HO_3.out).2.2 x5_1 p1351 q1351
       obtain rfl : ad1349 = ad1351 := (by injection e1351)
       replace p1351 := eq_true p1351
       replace q1351 := eq_true q1351
       go_wp2_with (first | ((with_reducible refine gate_builtin (b := .append) (xs := #[.tmp 26, .tmp 31]) rfl ?_); at_builtin; refine Kd.R_append k38 (w0 := w) w.heap.size rfl (.tmp 26) (.tmp 31) 47 38 (.agg #[(.int .i64 0), (.int .i64 0)]) 16 rfl Try.underlying47 info38 rfl (by decide) (by omega) u4 x4_1 (⟨(rd_T38 t1336 x5_1).f0, (rd_T38 t1336 x5_1).f1⟩ : S38) [.int .i64 ((rd_T38 t1336 x5_1).f0), .int .i64 ((rd_T38 t1336 x5_1).f1)] (fun k_ => some k_ ≠ (.slice (some ad1349) t1336.length co16 : Value).ownBlock) (fun _ => False) rfl rfl ?aP (fun _ hk => hk.elim) ?aF ?aO ?aB ?aS ?aL ?_; (case aP => exact k38_mkM _ _ _ (⟨(rd_T38 t1336 x5_1).f0, (rd_T38 t1336 x5_1).f1⟩ : S38)); (case aB => exact (by repeat (first | (with_reducible first | exact HB.out | apply zG | apply zA | apply zF | refine zH ?_ GE1334.out | refine zH ?_ GE1335.out) | exact HB.out))); (case aF => exact (fun k_ hk => Kd.fresh' (Kd.R_lt (by (with_reducible repeat (first | apply Kd.R_alloc | apply Kd.R_drewN | apply Kd.R_drew)); exact HO_3.out)) k_ hk)); (case aO => exact (by (with_reducible repeat (first | apply Kd.R_alloc | apply Kd.R_drewN | apply Kd.R_drew)); exact HO_4.out)); (case aS => exact (zM (by repeat (first | (with_reducible first | exact HB.out | apply zG | apply zA | apply zF | refine zH ?_ GE1334.out | refine zH ?_ GE1335.out) | exact HB.out)))); (case aL => have := LMc21.out; omega); intro v1353 w22 ho hb hg hat; rw [← Ny1352.out] at ho; have n0_ := zC.mk (Kd.R_after (ok := (fun _ => True)) (by (with_reducible repeat (first | apply Kd.R_alloc | apply Kd.R_drewN | apply Kd.R_drew)); exact Kd.R_mono HO_3.out (fun _ hk => ⟨trivial, hk⟩)) hg hat); have n1_ := zC.mk (blk_grown (g := gb1334) (o := .cells #[.int .i64 a0_0, .int .i64 a0_1, .int .i64 a0_2, .int .i64 a0_3, .slice A0_4 l0_4.length c0_4] 30 (0, 0)) (by (with_reducible repeat (first | refine zE ?_ _ | refine zI ?_ | refine zD ?_ _)); exact BK1334.out) hg (Kd.R_ne HO_4.out BK1334.out (by decide))); have n2_ := zC.mk (blk_grown (g := gb1335) (o := .cells #[.int .i64 0, .int .i64 0, .int .i64 0] 28 (0, 0)) (by (with_reducible repeat (first | refine zE ?_ _ | refine zI ?_ | refine zD ?_ _)); exact BK1335.out) hg (Kd.R_ne HO_4.out BK1335.out (by decide))); have n3_ := zC.mk (hb); have n4_ := zC.mk (ho); clear HO_3; clear BK1334; clear BK1335; clear HB; clear HO_4; have HO_3 := n0_; have BK1334 := n1_; have BK1335 := n2_; have HB := n3_; have HO1354 := n4_; clear n0_ n1_ n2_ n3_ n4_; clear ho hb hg hat))
       go_roundg k1
       case measure => have := HK1.out; omega
       case rel => exact ⟨(y1352), (wrap64 (x5_1 + 1)), (by first | rfl | (simp; done) | (simp [*]; done)), H', ⟨by have := HK1.out; omega⟩, ⟨by (with_reducible repeat (first | apply Kd.R_alloc | apply Kd.R_drewN | apply Kd.R_drew)); exact Kd.R_mono HO_3.out (fun _ hk => hk.2)⟩, ⟨by (with_reducible repeat (first | apply Kd.R_alloc | apply Kd.R_drewN | apply Kd.R_drew)); exact HO1354.out⟩, ⟨by (with_reducible repeat (first | refine zE ?_ _ | refine zI ?_ | refine zD ?_ _)); exact BK1334.out⟩, ⟨by (with_reducible repeat (first | refine zE ?_ _ | refine zI ?_ | refine zD ?_ _)); exact BK1335.out⟩, ⟨by repeat (first | (with_reducible first | exact HB.out | apply zG | apply zA | apply zF | refine zH ?_ GE1334.out | refine zH ?_ GE1335.out) | exact HB.out)⟩⟩
      ·
       rw [if_neg c21] at H
       exact absurd H (by simp)
     ·
      replace c20 := Bool.eq_false_iff.mpr c20
      subst c20
      have H1 : (yU.l0 k1 t1336 x4_1 (wrap64 (x5_1 + 1)) a0_0 a0_1 a0_2 a0_3 l0_4) = some (r1, r2, r3) := by rw [if_neg (show ¬ (false = true) by decide)] at H; exact H
      clear H
      have H := H1
      clear H1
      have H' := zC.mk H
      clear H
      go_wp2
      go_roundg k1
      case measure => have := HK1.out; omega
      case rel => exact ⟨(x4_1), (wrap64 (x5_1 + 1)), (by first | rfl | (simp; done) | (simp [*]; done)), H', ⟨by have := HK1.out; omega⟩, ⟨by (with_reducible repeat (first | apply Kd.R_alloc | apply Kd.R_drewN | apply Kd.R_drew)); exact HO_3.out⟩, ⟨by (with_reducible repeat (first | apply Kd.R_alloc | apply Kd.R_drewN | apply Kd.R_drew)); exact HO_4.out⟩, ⟨by (with_reducible repeat (first | refine zE ?_ _ | refine zI ?_ | refine zD ?_ _)); exact BK1334.out⟩, ⟨by (with_reducible repeat (first | refine zE ?_ _ | refine zI ?_ | refine zD ?_ _)); exact BK1335.out⟩, ⟨by repeat (first | (with_reducible first | exact HB.out | apply zG | apply zA | apply zF | refine zH ?_ GE1334.out | refine zH ?_ GE1335.out) | exact HB.out)⟩⟩
    ·
     rw [if_neg c13] at H
     exact absurd H (by simp)
   ·
    rw [if_neg c11] at H
    have c11b0 : decide (x5_1 < (t1336.length : Int)) = false := decide_eq_false c11
    clear c11
    replace H := Option.bind_eq_some_iff.mp H
    obtain ⟨⟨t1342, t1343, t1344⟩, A230, H⟩ := H
    replace H : (some (t1342, t1343, t1344)) = some (r1, r2, r3) := H
    have A23 := zC.mk A230
    clear A230
    simp only [Option.some.injEq, Prod.mk.injEq] at H
    obtain ⟨rfl, rfl, rfl⟩ := H
    obtain ⟨Ao24, co24, eo24⟩ := Kd.R_slice HO_3.out
    subst eo24
    obtain ⟨Ao25, co25, eo25⟩ := Kd.R_slice HO_4.out
    subst eo25
    go_wp2_with (first | ((with_reducible refine zS (f := 163) rfl ?_); refine zZ (some 34) rfl rfl Try.func163 (by kernel_rfl) rfl #[.slice Ao25 x4_1.length co25] rfl (by (try simp only [List.map_toArray, List.map_cons, List.map_nil]); first | done | rfl) ?_; (with_reducible refine (yJ.calls k1 _ _ x4_1 t1342 t1343 t1344 _ ?side1 ?side2 A23.out).mono ?_); (case side1 => repeat (first | exact (Kd.R_reads' HO_4.out).2.2 | (with_reducible refine Kd.C_alloc ?_ _) | (with_reducible refine Kd.C_drewN ?_ _) | (with_reducible refine Kd.C_drew ?_))); (case side2 => exact (Kd.R_reads' HO_4.out).2.1); rintro e w26 ⟨rfl, hb⟩; refine ⟨_, rfl, ?_⟩; have n0_ := zC.mk (Kd.R_below (by (with_reducible repeat (first | apply Kd.R_alloc | apply Kd.R_drewN | apply Kd.R_drew)); exact HO_3.out) hb); have n1_ := zC.mk (Kd.R_below (by (with_reducible repeat (first | apply Kd.R_alloc | apply Kd.R_drewN | apply Kd.R_drew)); exact HO_4.out) hb); have n2_ := zC.mk (zK (g := gb1334) (o := .cells #[.int .i64 a0_0, .int .i64 a0_1, .int .i64 a0_2, .int .i64 a0_3, .slice A0_4 l0_4.length c0_4] 30 (0, 0)) (by (with_reducible repeat (first | refine zE ?_ _ | refine zI ?_ | refine zD ?_ _)); exact BK1334.out) hb); have n3_ := zC.mk (zK (g := gb1335) (o := .cells #[.int .i64 0, .int .i64 0, .int .i64 0] 28 (0, 0)) (by (with_reducible repeat (first | refine zE ?_ _ | refine zI ?_ | refine zD ?_ _)); exact BK1335.out) hb); have n4_ := zC.mk (zL (by repeat (first | (with_reducible first | exact HB.out | apply zG | apply zA | apply zF | refine zH ?_ GE1334.out | refine zH ?_ GE1335.out) | exact HB.out)) hb); clear HO_3; clear HO_4; clear BK1334; clear BK1335; clear HB; have HO_3 := n0_; have HO_4 := n1_; have BK1334 := n2_; have BK1335 := n3_; have HB := n4_; clear n0_ n1_ n2_ n3_ n4_; (try clear hb); have hnb27 := NB1335_1334.out; have hnc27 := NB1334_1335.out; have hcz28_0 : w26.cell? ⟨gb1335, 0, none⟩ = some (.int .i64 0) := zB BK1335.out 0; have hcz28_1 : w26.cell? ⟨gb1335, 1, none⟩ = some (.int .i64 0) := zB BK1335.out 1; have hcz28_2 : w26.cell? ⟨gb1335, 2, none⟩ = some (.int .i64 0) := zB BK1335.out 2; have hfz28_0 := zJ BK1335.out 0; have hfz28_1 := zJ BK1335.out 1; have hfz28_2 := zJ BK1335.out 2))
    refine bodyPost_ret (results_cell_row rfl _ _ gb1335 28 #[.int .i64 t1342, .int .i64 t1343, .int .i64 t1344] (0, 0) _ rfl (by (with_reducible repeat (first | refine zE ?_ _ | refine zI ?_ | refine zD ?_ _)); refine zU (cs := #[.int .i64 t1342, .int .i64 t1343, .int .i64 0]) ?_ 2 _ rfl; (with_reducible repeat (first | refine zE ?_ _ | refine zI ?_ | refine zD ?_ _)); refine zU (cs := #[.int .i64 t1342, .int .i64 0, .int .i64 0]) ?_ 1 _ rfl; (with_reducible repeat (first | refine zE ?_ _ | refine zI ?_ | refine zD ?_ _)); refine zU (cs := #[.int .i64 0, .int .i64 0, .int .i64 0]) ?_ 0 _ rfl; (with_reducible repeat (first | refine zE ?_ _ | refine zI ?_ | refine zD ?_ _)); exact BK1335.out) Try.underlying28 rfl (by kernel_rfl)) rfl ?_
    exact ⟨by first | rfl | (simp [*, errW_none, errW_some] <;> rfl), by repeat (first | (with_reducible first | exact HB.out | apply zG | apply zA | apply zF | refine zH ?_ GE1334.out | refine zH ?_ GE1335.out) | exact HB.out)⟩
theorem yQ.calls (k : Nat) (a0_0 : Int) (a0_1 : Int) (a0_2 : Int) (a0_3 : Int) (A0_4 : Option Addr) (c0_4 : Nat) (l0_4 : List Int) (a1 : Bool) (r1 : Int) (r2 : Int) (r3 : Int) (r4 : Int) (w : World) (hr0_4 : Kd.C (Kd.int .i64) w A0_4 l0_4.length l0_4) (hc0_4 : l0_4.length ≤ c0_4) (h : yQ.f k a0_0 a0_1 a0_2 a0_3 l0_4 a1 = some (r1, r2, r3, r4)) :
  Calls Try.prog 105 #[.agg #[.int .i64 a0_0, .int .i64 a0_1, .int .i64 a0_2, .int .i64 a0_3, .slice A0_4 l0_4.length c0_4], .bool a1] w fun e w' => e = .returned (.tuple #[.agg #[.int .i64 r1, .int .i64 r2, .int .i64 r3], .int .i64 r4]) ∧ Below w.heap.size w w' := by
 have hu30 := Try.underlying30
 have hu28 := Try.underlying28
 have HR0_4 := zC.mk hr0_4
 have HC0_4 := zC.mk hc0_4
 clear hr0_4 hc0_4
 have HB := zC.mk (Below.refl w.heap.size w)
 have H : ((xL.f k a0_0 a0_1 a0_2 a0_3 l0_4).bind fun t1559 => (if t1559 = true then (yQ.j0 k a1 (a0_0 != 0) a0_0 a0_1 a0_2 a0_3 l0_4) else (yQ.j0 k a1 true a0_0 a0_1 a0_2 a0_3 l0_4))) = some (r1, r2, r3, r4) := h
 clear h
 have HC3 := zC.mk H
 clear H
 go_enter Try.func105, Try.ntmps105
 go_upto_region 1 with (first | ((with_reducible refine zP (N := 2) rfl ?_); refine zO ?hg (N := 2) ?hd (cs := #[.int .i64 a0_0, .int .i64 a0_1, .int .i64 a0_2, .int .i64 a0_3, .slice A0_4 l0_4.length c0_4]) (t := 30) ?hr ?_; (case hd => rfl); (case hg => rfl); (case hr => first | (go_simp; done) | (go_simp; rfl)); intro gb1557 hg w4 hbox hb; have n0_ := zC.mk (zL (by repeat (first | (with_reducible first | exact HB.out | apply zG | apply zA | apply zF) | exact HB.out)) hb); have n1_ := zC.mk (hbox); have n2_ := zC.mk ((by rw [hg]; exact (zM (by repeat (first | (with_reducible first | exact HB.out | apply zG | apply zA | apply zF) | exact HB.out))) : w.heap.size ≤ gb1557)); have n3_ := n2_; clear HB; have HB := n0_; have BK1557 := n1_; have GW1557 := n2_; have GE1557 := n3_; clear n0_ n1_ n2_ n3_; clear hb hbox hg) | ((with_reducible refine zP (N := 4) rfl ?_); refine zO ?hg (N := 4) ?hd (cs := #[.int .i64 0, .int .i64 0, .int .i64 0]) (t := 28) ?hr ?_; (case hd => rfl); (case hg => rfl); (case hr => first | (go_simp; done) | (go_simp; rfl)); intro gb1558 hg w5 hbox hb; have n0_ := zC.mk (zK (g := gb1557) (o := .cells #[.int .i64 a0_0, .int .i64 a0_1, .int .i64 a0_2, .int .i64 a0_3, .slice A0_4 l0_4.length c0_4] 30 (0, 0)) (by (with_reducible repeat (first | refine zE ?_ _ | refine zI ?_ | refine zD ?_ _)); exact BK1557.out) hb); have n1_ := zC.mk (zL (by repeat (first | (with_reducible first | exact HB.out | apply zG | apply zA | apply zF | refine zH ?_ GE1557.out) | exact HB.out)) hb); have n2_ := zC.mk (hbox); have n3_ := zC.mk ((by rw [hg]; exact (zM (by repeat (first | (with_reducible first | exact HB.out | apply zG | apply zA | apply zF | refine zH ?_ GE1557.out) | exact HB.out))) : w.heap.size ≤ gb1558)); have n4_ := n3_; have n5_ := zC.mk ((by rw [hg]; exact Nat.ne_of_lt (zX (by (with_reducible repeat (first | refine zE ?_ _ | refine zI ?_ | refine zD ?_ _)); exact BK1557.out)) : gb1557 ≠ gb1558)); have n6_ := zC.mk n5_.out.symm; clear BK1557; clear HB; have BK1557 := n0_; have HB := n1_; have BK1558 := n2_; have GW1558 := n3_; have GE1558 := n4_; have NB1557_1558 := n5_; have NB1558_1557 := n6_; clear n0_ n1_ n2_ n3_ n4_ n5_ n6_; clear hb hbox hg))
 (try simp only [Act.put, List.setIfInBounds_toArray, List.set_cons_zero, List.set_cons_succ])
 go_cut [13] (fun v13 wc => ∃ (kq : Nat) (x13_2 : Bool), v13 = .bool x13_2 ∧ zC (yQ.j0 kq a1 x13_2 a0_0 a0_1 a0_2 a0_3 l0_4 = some (r1, r2, r3, r4)) ∧ zC (kq ≤ k) ∧ zC (wc.heap[gb1557]? = some (.cells #[.int .i64 a0_0, .int .i64 a0_1, .int .i64 a0_2, .int .i64 a0_3, (.slice A0_4 l0_4.length c0_4)] 30 (0, 0))) ∧ zC (wc.heap[gb1558]? = some (.cells #[.int .i64 0, .int .i64 0, .int .i64 0] 28 (0, 0))) ∧ zC (Below w.heap.size w wc))
 case first =>
  have H := HC3.out
  clear HC3
  replace H := Option.bind_eq_some_iff.mp H
  obtain ⟨t1559, A60, H⟩ := H
  replace H : (if t1559 = true then (yQ.j0 k a1 (a0_0 != 0) a0_0 a0_1 a0_2 a0_3 l0_4) else (yQ.j0 k a1 true a0_0 a0_1 a0_2 a0_3 l0_4)) = some (r1, r2, r3, r4) := H
  have A6 := zC.mk A60
  clear A60
  by_cases c7 : t1559 = true
  ·
   subst c7
   have H1 : (yQ.j0 k a1 (a0_0 != 0) a0_0 a0_1 a0_2 a0_3 l0_4) = some (r1, r2, r3, r4) := by rw [if_pos rfl] at H; exact H
   clear H
   have H := H1
   clear H1
   have H' := zC.mk H
   clear H
   have hnb8 := NB1557_1558.out
   have hnc8 := NB1558_1557.out
   have hcz9_0 : w5.cell? ⟨gb1557, 0, none⟩ = some (.int .i64 a0_0) := zB BK1557.out 0
   have hcz9_1 : w5.cell? ⟨gb1557, 1, none⟩ = some (.int .i64 a0_1) := zB BK1557.out 1
   have hcz9_2 : w5.cell? ⟨gb1557, 2, none⟩ = some (.int .i64 a0_2) := zB BK1557.out 2
   have hcz9_3 : w5.cell? ⟨gb1557, 3, none⟩ = some (.int .i64 a0_3) := zB BK1557.out 3
   have hcz9_4 : w5.cell? ⟨gb1557, 4, none⟩ = some (.slice A0_4 l0_4.length c0_4) := zB BK1557.out 4
   have hfz9_0 := zJ BK1557.out 0
   have hfz9_1 := zJ BK1557.out 1
   have hfz9_2 := zJ BK1557.out 2
   have hfz9_3 := zJ BK1557.out 3
   have hfz9_4 := zJ BK1557.out 4
   go_wp2_with (first | ((with_reducible refine zS (f := 73) rfl ?_); refine zZ (some 7) rfl rfl Try.func73 (by kernel_rfl) rfl #[.agg #[.int .i64 a0_0, .int .i64 a0_1, .int .i64 a0_2, .int .i64 a0_3, .slice A0_4 l0_4.length c0_4]] rfl (by (try simp only [List.map_toArray, List.map_cons, List.map_nil]); first | done | rfl) ?_; (with_reducible refine (xL.calls k a0_0 a0_1 a0_2 a0_3 _ _ l0_4 true _ ?side1 ?side2 A6.out).mono ?_); (case side1 => repeat (first | exact (Kd.C_below HR0_4.out HB.out) | (with_reducible refine Kd.C_alloc ?_ _) | (with_reducible refine Kd.C_drewN ?_ _) | (with_reducible refine Kd.C_drew ?_))); (case side2 => exact HC0_4.out); rintro e w10 ⟨rfl, hb⟩; refine ⟨_, rfl, ?_⟩; have n0_ := zC.mk (zK (g := gb1557) (o := .cells #[.int .i64 a0_0, .int .i64 a0_1, .int .i64 a0_2, .int .i64 a0_3, .slice A0_4 l0_4.length c0_4] 30 (0, 0)) (by (with_reducible repeat (first | refine zE ?_ _ | refine zI ?_ | refine zD ?_ _)); exact BK1557.out) hb); have n1_ := zC.mk (zK (g := gb1558) (o := .cells #[.int .i64 0, .int .i64 0, .int .i64 0] 28 (0, 0)) (by (with_reducible repeat (first | refine zE ?_ _ | refine zI ?_ | refine zD ?_ _)); exact BK1558.out) hb); have n2_ := zC.mk (zL (by repeat (first | (with_reducible first | exact HB.out | apply zG | apply zA | apply zF | refine zH ?_ GE1557.out | refine zH ?_ GE1558.out) | exact HB.out)) hb); clear BK1557; clear BK1558; clear HB; have BK1557 := n0_; have BK1558 := n1_; have HB := n2_; clear n0_ n1_ n2_; (try clear hb); have hcz11_0 : w10.cell? ⟨gb1557, 0, none⟩ = some (.int .i64 a0_0) := zB BK1557.out 0; have hcz11_1 : w10.cell? ⟨gb1557, 1, none⟩ = some (.int .i64 a0_1) := zB BK1557.out 1; have hcz11_2 : w10.cell? ⟨gb1557, 2, none⟩ = some (.int .i64 a0_2) := zB BK1557.out 2; have hcz11_3 : w10.cell? ⟨gb1557, 3, none⟩ = some (.int .i64 a0_3) := zB BK1557.out 3; have hcz11_4 : w10.cell? ⟨gb1557, 4, none⟩ = some (.slice A0_4 l0_4.length c0_4) := zB BK1557.out 4; have hfz11_0 := zJ BK1557.out 0; have hfz11_1 := zJ BK1557.out 1; have hfz11_2 := zJ BK1557.out 2; have hfz11_3 := zJ BK1557.out 3; have hfz11_4 := zJ BK1557.out 4))
   go_meet
   case rel => exact ⟨_, ((a0_0 != 0)), (by first | rfl | (simp; done) | (simp [*]; done)), H', ⟨by first | omega | exact Nat.le_refl _⟩, ⟨by (with_reducible repeat (first | refine zE ?_ _ | refine zI ?_ | refine zD ?_ _)); exact BK1557.out⟩, ⟨by (with_reducible repeat (first | refine zE ?_ _ | refine zI ?_ | refine zD ?_ _)); exact BK1558.out⟩, ⟨by repeat (first | (with_reducible first | exact HB.out | apply zG | apply zA | apply zF | refine zH ?_ GE1557.out | refine zH ?_ GE1558.out) | exact HB.out)⟩⟩
  ·
   replace c7 := Bool.eq_false_iff.mpr c7
   subst c7
   have H1 : (yQ.j0 k a1 true a0_0 a0_1 a0_2 a0_3 l0_4) = some (r1, r2, r3, r4) := by rw [if_neg (show ¬ (false = true) by decide)] at H; exact H
   clear H
   have H := H1
   clear H1
   have H' := zC.mk H
   clear H
   have hnb12 := NB1557_1558.out
   have hnc12 := NB1558_1557.out
   have hcz13_0 : w5.cell? ⟨gb1557, 0, none⟩ = some (.int .i64 a0_0) := zB BK1557.out 0
   have hcz13_1 : w5.cell? ⟨gb1557, 1, none⟩ = some (.int .i64 a0_1) := zB BK1557.out 1
   have hcz13_2 : w5.cell? ⟨gb1557, 2, none⟩ = some (.int .i64 a0_2) := zB BK1557.out 2
   have hcz13_3 : w5.cell? ⟨gb1557, 3, none⟩ = some (.int .i64 a0_3) := zB BK1557.out 3
   have hcz13_4 : w5.cell? ⟨gb1557, 4, none⟩ = some (.slice A0_4 l0_4.length c0_4) := zB BK1557.out 4
   have hfz13_0 := zJ BK1557.out 0
   have hfz13_1 := zJ BK1557.out 1
   have hfz13_2 := zJ BK1557.out 2
   have hfz13_3 := zJ BK1557.out 3
   have hfz13_4 := zJ BK1557.out 4
   go_wp2_with (first | ((with_reducible refine zS (f := 73) rfl ?_); refine zZ (some 7) rfl rfl Try.func73 (by kernel_rfl) rfl #[.agg #[.int .i64 a0_0, .int .i64 a0_1, .int .i64 a0_2, .int .i64 a0_3, .slice A0_4 l0_4.length c0_4]] rfl (by (try simp only [List.map_toArray, List.map_cons, List.map_nil]); first | done | rfl) ?_; (with_reducible refine (xL.calls k a0_0 a0_1 a0_2 a0_3 _ _ l0_4 false _ ?side1 ?side2 A6.out).mono ?_); (case side1 => repeat (first | exact (Kd.C_below HR0_4.out HB.out) | (with_reducible refine Kd.C_alloc ?_ _) | (with_reducible refine Kd.C_drewN ?_ _) | (with_reducible refine Kd.C_drew ?_))); (case side2 => exact HC0_4.out); rintro e w14 ⟨rfl, hb⟩; refine ⟨_, rfl, ?_⟩; have n0_ := zC.mk (zK (g := gb1557) (o := .cells #[.int .i64 a0_0, .int .i64 a0_1, .int .i64 a0_2, .int .i64 a0_3, .slice A0_4 l0_4.length c0_4] 30 (0, 0)) (by (with_reducible repeat (first | refine zE ?_ _ | refine zI ?_ | refine zD ?_ _)); exact BK1557.out) hb); have n1_ := zC.mk (zK (g := gb1558) (o := .cells #[.int .i64 0, .int .i64 0, .int .i64 0] 28 (0, 0)) (by (with_reducible repeat (first | refine zE ?_ _ | refine zI ?_ | refine zD ?_ _)); exact BK1558.out) hb); have n2_ := zC.mk (zL (by repeat (first | (with_reducible first | exact HB.out | apply zG | apply zA | apply zF | refine zH ?_ GE1557.out | refine zH ?_ GE1558.out) | exact HB.out)) hb); clear BK1557; clear BK1558; clear HB; have BK1557 := n0_; have BK1558 := n1_; have HB := n2_; clear n0_ n1_ n2_; (try clear hb)))
   go_meet
   case rel => exact ⟨_, (true), (by first | rfl | (simp; done) | (simp [*]; done)), H', ⟨by first | omega | exact Nat.le_refl _⟩, ⟨by (with_reducible repeat (first | refine zE ?_ _ | refine zI ?_ | refine zD ?_ _)); exact BK1557.out⟩, ⟨by (with_reducible repeat (first | refine zE ?_ _ | refine zI ?_ | refine zD ?_ _)); exact BK1558.out⟩, ⟨by repeat (first | (with_reducible first | exact HB.out | apply zG | apply zA | apply zF | refine zH ?_ GE1557.out | refine zH ?_ GE1558.out) | exact HB.out)⟩⟩
 case rest =>
  clear HC3
  try clear c1
  try clear p2
  try clear c7
  try clear c8
  try clear c10
  try clear c12
  try clear hcz11_0
  try clear hcz11_1
  try clear hcz11_2
  try clear hcz11_3
  try clear hcz11_4
  try clear hcz13_0
  try clear hcz13_1
  try clear hcz13_2
  try clear hcz13_3
  try clear hcz13_4
  try clear hcz9_0
  try clear hcz9_1
  try clear hcz9_2
  try clear hcz9_3
  try clear hcz9_4
  try clear hfz11_0
  try clear hfz11_1
  try clear hfz11_2
  try clear hfz11_3
  try clear hfz11_4
  try clear hfz13_0
  try clear hfz13_1
  try clear hfz13_2
  try clear hfz13_3
  try clear hfz13_4
  try clear hfz9_0
  try clear hfz9_1
  try clear hfz9_2
  try clear hfz9_3
  try clear hfz9_4
  obtain ⟨kq, x13_2, rfl, HA, HJ2, BK1557, BK1558, HB⟩ := hcut
  cases kq with
  | zero => exact absurd HA.out (by simp [yQ.j0])
  | succ kj2 =>
   have H := HA.out
   clear HA
   simp only [yQ.j0] at H
   by_cases c15 : x13_2 = true
   ·
    subst c15
    have H1 : (some (0, 0, 0, 1)) = some (r1, r2, r3, r4) := by rw [if_pos rfl] at H; exact H
    clear H
    have H := H1
    clear H1
    simp only [Option.some.injEq, Prod.mk.injEq] at H
    obtain ⟨rfl, rfl, rfl, rfl⟩ := H
    have hnb16 := NB1558_1557.out
    have hnc16 := NB1557_1558.out
    have hcz17_0 : wc.cell? ⟨gb1558, 0, none⟩ = some (.int .i64 0) := zB BK1558.out 0
    have hcz17_1 : wc.cell? ⟨gb1558, 1, none⟩ = some (.int .i64 0) := zB BK1558.out 1
    have hcz17_2 : wc.cell? ⟨gb1558, 2, none⟩ = some (.int .i64 0) := zB BK1558.out 2
    have hfz17_0 := zJ BK1558.out 0
    have hfz17_1 := zJ BK1558.out 1
    have hfz17_2 := zJ BK1558.out 2
    go_wp2
    refine bodyPost_ret (results_ct rfl _ _ gb1558 28 #[.int .i64 0, .int .i64 0, .int .i64 0] (0, 0) _ rfl (by (with_reducible repeat (first | refine zE ?_ _ | refine zI ?_ | refine zD ?_ _)); refine zU (cs := #[.int .i64 0, .int .i64 0, .int .i64 0]) ?_ 2 _ rfl; (with_reducible repeat (first | refine zE ?_ _ | refine zI ?_ | refine zD ?_ _)); refine zU (cs := #[.int .i64 0, .int .i64 0, .int .i64 0]) ?_ 1 _ rfl; (with_reducible repeat (first | refine zE ?_ _ | refine zI ?_ | refine zD ?_ _)); refine zU (cs := #[.int .i64 0, .int .i64 0, .int .i64 0]) ?_ 0 _ rfl; (with_reducible repeat (first | refine zE ?_ _ | refine zI ?_ | refine zD ?_ _)); exact BK1558.out) Try.underlying28 rfl (by kernel_rfl)) rfl ?_
    exact ⟨by first | rfl | (simp [*, errW_none, errW_some] <;> rfl), by repeat (first | (with_reducible first | exact HB.out | apply zG | apply zA | apply zF | refine zH ?_ GE1557.out | refine zH ?_ GE1558.out) | exact HB.out)⟩
   ·
    replace c15 := Bool.eq_false_iff.mpr c15
    subst c15
    have H1 : (if a1 = true then ((yU.f kj2 a0_0 a0_1 a0_2 a0_3 l0_4).bind fun bt1560 => (some (bt1560.1, bt1560.2.1, bt1560.2.2, 0))) else (some (0, 0, 0, 2))) = some (r1, r2, r3, r4) := by rw [if_neg (show ¬ (false = true) by decide)] at H; exact H
    clear H
    have H := H1
    clear H1
    by_cases c18 : a1 = true
    ·
     subst c18
     have H1 : ((yU.f kj2 a0_0 a0_1 a0_2 a0_3 l0_4).bind fun bt1560 => (some (bt1560.1, bt1560.2.1, bt1560.2.2, 0))) = some (r1, r2, r3, r4) := by rw [if_pos rfl] at H; exact H
     clear H
     have H := H1
     clear H1
     replace H := Option.bind_eq_some_iff.mp H
     obtain ⟨⟨t1560, t1561, t1562⟩, A190, H⟩ := H
     replace H : (some (t1560, t1561, t1562, 0)) = some (r1, r2, r3, r4) := H
     have A19 := zC.mk A190
     clear A190
     simp only [Option.some.injEq, Prod.mk.injEq] at H
     obtain ⟨rfl, rfl, rfl, rfl⟩ := H
     have hnb20 := NB1557_1558.out
     have hnc20 := NB1558_1557.out
     have hcz21_0 : wc.cell? ⟨gb1557, 0, none⟩ = some (.int .i64 a0_0) := zB BK1557.out 0
     have hcz21_1 : wc.cell? ⟨gb1557, 1, none⟩ = some (.int .i64 a0_1) := zB BK1557.out 1
     have hcz21_2 : wc.cell? ⟨gb1557, 2, none⟩ = some (.int .i64 a0_2) := zB BK1557.out 2
     have hcz21_3 : wc.cell? ⟨gb1557, 3, none⟩ = some (.int .i64 a0_3) := zB BK1557.out 3
     have hcz21_4 : wc.cell? ⟨gb1557, 4, none⟩ = some (.slice A0_4 l0_4.length c0_4) := zB BK1557.out 4
     have hfz21_0 := zJ BK1557.out 0
     have hfz21_1 := zJ BK1557.out 1
     have hfz21_2 := zJ BK1557.out 2
     have hfz21_3 := zJ BK1557.out 3
     have hfz21_4 := zJ BK1557.out 4
     go_wp2_with (first | ((with_reducible refine zS (f := 144) rfl ?_); refine zZ (some 19) rfl rfl Try.func144 (by kernel_rfl) rfl #[.agg #[.int .i64 a0_0, .int .i64 a0_1, .int .i64 a0_2, .int .i64 a0_3, .slice A0_4 l0_4.length c0_4]] rfl (by (try simp only [List.map_toArray, List.map_cons, List.map_nil]); first | done | rfl) ?_; (with_reducible refine (yU.calls kj2 a0_0 a0_1 a0_2 a0_3 _ _ l0_4 t1560 t1561 t1562 _ ?side1 ?side2 A19.out).mono ?_); (case side1 => repeat (first | exact (Kd.C_below HR0_4.out HB.out) | (with_reducible refine Kd.C_alloc ?_ _) | (with_reducible refine Kd.C_drewN ?_ _) | (with_reducible refine Kd.C_drew ?_))); (case side2 => exact HC0_4.out); rintro e w22 ⟨rfl, hb⟩; refine ⟨_, rfl, ?_⟩; have n0_ := zC.mk (zK (g := gb1557) (o := .cells #[.int .i64 a0_0, .int .i64 a0_1, .int .i64 a0_2, .int .i64 a0_3, .slice A0_4 l0_4.length c0_4] 30 (0, 0)) (by (with_reducible repeat (first | refine zE ?_ _ | refine zI ?_ | refine zD ?_ _)); exact BK1557.out) hb); have n1_ := zC.mk (zK (g := gb1558) (o := .cells #[.int .i64 0, .int .i64 0, .int .i64 0] 28 (0, 0)) (by (with_reducible repeat (first | refine zE ?_ _ | refine zI ?_ | refine zD ?_ _)); exact BK1558.out) hb); have n2_ := zC.mk (zL (by repeat (first | (with_reducible first | exact HB.out | apply zG | apply zA | apply zF | refine zH ?_ GE1557.out | refine zH ?_ GE1558.out) | exact HB.out)) hb); clear BK1557; clear BK1558; clear HB; have BK1557 := n0_; have BK1558 := n1_; have HB := n2_; clear n0_ n1_ n2_; (try clear hb); have hcz23_0 : w22.cell? ⟨gb1558, 0, none⟩ = some (.int .i64 0) := zB BK1558.out 0; have hcz23_1 : w22.cell? ⟨gb1558, 1, none⟩ = some (.int .i64 0) := zB BK1558.out 1; have hcz23_2 : w22.cell? ⟨gb1558, 2, none⟩ = some (.int .i64 0) := zB BK1558.out 2; have hfz23_0 := zJ BK1558.out 0; have hfz23_1 := zJ BK1558.out 1; have hfz23_2 := zJ BK1558.out 2))
     refine bodyPost_ret (results_ct rfl _ _ gb1558 28 #[.int .i64 t1560, .int .i64 t1561, .int .i64 t1562] (0, 0) _ rfl (by (with_reducible repeat (first | refine zE ?_ _ | refine zI ?_ | refine zD ?_ _)); refine zU (cs := #[.int .i64 t1560, .int .i64 t1561, .int .i64 0]) ?_ 2 _ rfl; (with_reducible repeat (first | refine zE ?_ _ | refine zI ?_ | refine zD ?_ _)); refine zU (cs := #[.int .i64 t1560, .int .i64 0, .int .i64 0]) ?_ 1 _ rfl; (with_reducible repeat (first | refine zE ?_ _ | refine zI ?_ | refine zD ?_ _)); refine zU (cs := #[.int .i64 0, .int .i64 0, .int .i64 0]) ?_ 0 _ rfl; (with_reducible repeat (first | refine zE ?_ _ | refine zI ?_ | refine zD ?_ _)); exact BK1558.out) Try.underlying28 rfl (by kernel_rfl)) rfl ?_
     exact ⟨by first | rfl | (simp [*, errW_none, errW_some] <;> rfl), by repeat (first | (with_reducible first | exact HB.out | apply zG | apply zA | apply zF | refine zH ?_ GE1557.out | refine zH ?_ GE1558.out) | exact HB.out)⟩
    ·
     replace c18 := Bool.eq_false_iff.mpr c18
     subst c18
     have H1 : (some (0, 0, 0, 2)) = some (r1, r2, r3, r4) := by rw [if_neg (show ¬ (false = true) by decide)] at H; exact H
     clear H
     have H := H1
     clear H1
     simp only [Option.some.injEq, Prod.mk.injEq] at H
     obtain ⟨rfl, rfl, rfl, rfl⟩ := H
     have hnb24 := NB1558_1557.out
     have hnc24 := NB1557_1558.out
     have hcz25_0 : wc.cell? ⟨gb1558, 0, none⟩ = some (.int .i64 0) := zB BK1558.out 0
     have hcz25_1 : wc.cell? ⟨gb1558, 1, none⟩ = some (.int .i64 0) := zB BK1558.out 1
     have hcz25_2 : wc.cell? ⟨gb1558, 2, none⟩ = some (.int .i64 0) := zB BK1558.out 2
     have hfz25_0 := zJ BK1558.out 0
     have hfz25_1 := zJ BK1558.out 1
     have hfz25_2 := zJ BK1558.out 2
     go_wp2
     refine bodyPost_ret (results_ct rfl _ _ gb1558 28 #[.int .i64 0, .int .i64 0, .int .i64 0] (0, 0) _ rfl (by (with_reducible repeat (first | refine zE ?_ _ | refine zI ?_ | refine zD ?_ _)); refine zU (cs := #[.int .i64 0, .int .i64 0, .int .i64 0]) ?_ 2 _ rfl; (with_reducible repeat (first | refine zE ?_ _ | refine zI ?_ | refine zD ?_ _)); refine zU (cs := #[.int .i64 0, .int .i64 0, .int .i64 0]) ?_ 1 _ rfl; (with_reducible repeat (first | refine zE ?_ _ | refine zI ?_ | refine zD ?_ _)); refine zU (cs := #[.int .i64 0, .int .i64 0, .int .i64 0]) ?_ 0 _ rfl; (with_reducible repeat (first | refine zE ?_ _ | refine zI ?_ | refine zD ?_ _)); exact BK1558.out) Try.underlying28 rfl (by kernel_rfl)) rfl ?_
     exact ⟨by first | rfl | (simp [*, errW_none, errW_some] <;> rfl), by repeat (first | (with_reducible first | exact HB.out | apply zG | apply zA | apply zF | refine zH ?_ GE1557.out | refine zH ?_ GE1558.out) | exact HB.out)⟩
attribute [local go_sem high] eqA38
theorem wK.calls (a0_0 : Int) (a0_1 : Int) (a0_2 : Int) (a1_0 : Int) (a1_1 : Int) (r : Bool) (w : World) (h : wK.f a0_0 a0_1 a0_2 a1_0 a1_1 = some r) :
  Calls Try.prog 153 #[.agg #[.int .i64 a0_0, .int .i64 a0_1, .int .i64 a0_2], .agg #[.int .i64 a1_0, .int .i64 a1_1]] w fun e w' => e = .returned (.bool r) ∧ Below w.heap.size w w' := by
 have hu28 := Try.underlying28
 have hu38 := Try.underlying38
 have HB := zC.mk (Below.refl w.heap.size w)
 have H : ((wG.f a0_0 a0_1 a0_2 a1_0 a1_1).bind fun bt1565 => (some (bt1565.1 == 0 && (bt1565.2 == 0)))) = some r := h
 clear h
 replace H := Option.bind_eq_some_iff.mp H
 obtain ⟨⟨t1565, t1566⟩, A30, H⟩ := H
 replace H : (some (t1565 == 0 && (t1566 == 0))) = some r := H
 have A3 := zC.mk A30
 clear A30
 obtain rfl := Option.some.inj H
 go_enter Try.func153, Try.ntmps153
 go_wp2_with (first | ((with_reducible refine zP (N := 2) rfl ?_); refine zO ?hg (N := 2) ?hd (cs := #[.int .i64 a0_0, .int .i64 a0_1, .int .i64 a0_2]) (t := 28) ?hr ?_; (case hd => rfl); (case hg => rfl); (case hr => first | (go_simp; done) | (go_simp; rfl)); intro gb1563 hg w4 hbox hb; have n0_ := zC.mk (zL (by repeat (first | (with_reducible first | exact HB.out | apply zG | apply zA | apply zF) | exact HB.out)) hb); have n1_ := zC.mk (hbox); have n2_ := zC.mk ((by rw [hg]; exact (zM (by repeat (first | (with_reducible first | exact HB.out | apply zG | apply zA | apply zF) | exact HB.out))) : w.heap.size ≤ gb1563)); have n3_ := n2_; clear HB; have HB := n0_; have BK1563 := n1_; have GW1563 := n2_; have GE1563 := n3_; clear n0_ n1_ n2_ n3_; clear hb hbox hg) | ((with_reducible refine zP (N := 3) rfl ?_); refine zO ?hg (N := 3) ?hd (cs := #[.int .i64 a1_0, .int .i64 a1_1]) (t := 38) ?hr ?_; (case hd => rfl); (case hg => rfl); (case hr => first | (go_simp; done) | (go_simp; rfl)); intro gb1564 hg w5 hbox hb; have n0_ := zC.mk (zK (g := gb1563) (o := .cells #[.int .i64 a0_0, .int .i64 a0_1, .int .i64 a0_2] 28 (0, 0)) (by (with_reducible repeat (first | refine zE ?_ _ | refine zI ?_ | refine zD ?_ _)); exact BK1563.out) hb); have n1_ := zC.mk (zL (by repeat (first | (with_reducible first | exact HB.out | apply zG | apply zA | apply zF | refine zH ?_ GE1563.out) | exact HB.out)) hb); have n2_ := zC.mk (hbox); have n3_ := zC.mk ((by rw [hg]; exact (zM (by repeat (first | (with_reducible first | exact HB.out | apply zG | apply zA | apply zF | refine zH ?_ GE1563.out) | exact HB.out))) : w.heap.size ≤ gb1564)); have n4_ := n3_; have n5_ := zC.mk ((by rw [hg]; exact Nat.ne_of_lt (zX (by (with_reducible repeat (first | refine zE ?_ _ | refine zI ?_ | refine zD ?_ _)); exact BK1563.out)) : gb1563 ≠ gb1564)); have n6_ := zC.mk n5_.out.symm; clear BK1563; clear HB; have BK1563 := n0_; have HB := n1_; have BK1564 := n2_; have GW1564 := n3_; have GE1564 := n4_; have NB1563_1564 := n5_; have NB1564_1563 := n6_; clear n0_ n1_ n2_ n3_ n4_ n5_ n6_; clear hb hbox hg; have hnb6 := NB1563_1564.out; have hnc6 := NB1564_1563.out; have hcz7_0 : w5.cell? ⟨gb1563, 0, none⟩ = some (.int .i64 a0_0) := zB BK1563.out 0; have hcz7_1 : w5.cell? ⟨gb1563, 1, none⟩ = some (.int .i64 a0_1) := zB BK1563.out 1; have hcz7_2 : w5.cell? ⟨gb1563, 2, none⟩ = some (.int .i64 a0_2) := zB BK1563.out 2; have hfz7_0 := zJ BK1563.out 0; have hfz7_1 := zJ BK1563.out 1; have hfz7_2 := zJ BK1563.out 2; have hcz8_0 : w5.cell? ⟨gb1564, 0, none⟩ = some (.int .i64 a1_0) := zB BK1564.out 0; have hcz8_1 : w5.cell? ⟨gb1564, 1, none⟩ = some (.int .i64 a1_1) := zB BK1564.out 1; have hfz8_0 := zJ BK1564.out 0; have hfz8_1 := zJ BK1564.out 1) | ((with_reducible refine zS (f := 158) rfl ?_); refine zZ (some 7) rfl rfl Try.func158 (by kernel_rfl) rfl #[.agg #[.int .i64 a0_0, .int .i64 a0_1, .int .i64 a0_2], .agg #[.int .i64 a1_0, .int .i64 a1_1]] rfl (by (try simp only [List.map_toArray, List.map_cons, List.map_nil]); first | done | rfl) ?_; (with_reducible refine (wG.calls a0_0 a0_1 a0_2 a1_0 a1_1 t1565 t1566 _ A3.out).mono ?_); rintro e w9 ⟨rfl, hb⟩; refine ⟨_, rfl, ?_⟩; have n0_ := zC.mk (zK (g := gb1563) (o := .cells #[.int .i64 a0_0, .int .i64 a0_1, .int .i64 a0_2] 28 (0, 0)) (by (with_reducible repeat (first | refine zE ?_ _ | refine zI ?_ | refine zD ?_ _)); exact BK1563.out) hb); have n1_ := zC.mk (zK (g := gb1564) (o := .cells #[.int .i64 a1_0, .int .i64 a1_1] 38 (0, 0)) (by (with_reducible repeat (first | refine zE ?_ _ | refine zI ?_ | refine zD ?_ _)); exact BK1564.out) hb); have n2_ := zC.mk (zL (by repeat (first | (with_reducible first | exact HB.out | apply zG | apply zA | apply zF | refine zH ?_ GE1563.out | refine zH ?_ GE1564.out) | exact HB.out)) hb); clear BK1563; clear BK1564; clear HB; have BK1563 := n0_; have BK1564 := n1_; have HB := n2_; clear n0_ n1_ n2_; (try clear hb)))
 go_ret
 exact ⟨by first | rfl | (simp [*, errW_none, errW_some] <;> rfl), by repeat (first | (with_reducible first | exact HB.out | apply zG | apply zA | apply zF | refine zH ?_ GE1563.out | refine zH ?_ GE1564.out) | exact HB.out)⟩
theorem yP.calls (k : Nat) (a0_0 : Int) (a0_1 : Int) (a0_2 : Int) (r : Int) (w : World) (h : yP.f k a0_0 a0_1 a0_2 = some r) :
  Calls Try.prog 106 #[.agg #[.int .i64 a0_0, .int .i64 a0_1, .int .i64 a0_2]] w fun e w' => e = .returned (.int .i64 r) ∧ Below w.heap.size w w' := by
 have hu28 := Try.underlying28
 have hu38 := Try.underlying38
 have HB := zC.mk (Below.refl w.heap.size w)
 have H : (yP.l0 k 1 a0_0 a0_1 a0_2) = some r := h
 clear h
 have H' := zC.mk H
 clear H
 go_enter Try.func106, Try.ntmps106
 go_wp2_with (first | ((with_reducible refine zP (N := 1) rfl ?_); refine zO ?hg (N := 1) ?hd (cs := #[.int .i64 a0_0, .int .i64 a0_1, .int .i64 a0_2]) (t := 28) ?hr ?_; (case hd => rfl); (case hg => rfl); (case hr => first | (go_simp; done) | (go_simp; rfl)); intro gb1567 hg w2 hbox hb; have n0_ := zC.mk (zL (by repeat (first | (with_reducible first | exact HB.out | apply zG | apply zA | apply zF) | exact HB.out)) hb); have n1_ := zC.mk (hbox); have n2_ := zC.mk ((by rw [hg]; exact (zM (by repeat (first | (with_reducible first | exact HB.out | apply zG | apply zA | apply zF) | exact HB.out))) : w.heap.size ≤ gb1567)); have n3_ := n2_; clear HB; have HB := n0_; have BK1567 := n1_; have GW1567 := n2_; have GE1567 := n3_; clear n0_ n1_ n2_ n3_; clear hb hbox hg))
 go_loopg [3] k (fun kq v3 w' => ∃ (x3_1 : Int), v3 = .int .i64 x3_1 ∧ zC (yP.l0 kq x3_1 a0_0 a0_1 a0_2 = some r) ∧ zC (kq ≤ k) ∧ zC (w'.heap[gb1567]? = some (.cells #[.int .i64 a0_0, .int .i64 a0_1, .int .i64 a0_2] 28 (0, 0))) ∧ zC (Below w.heap.size w w'))
 case atStart => exact ⟨(1), (by first | rfl | (simp; done) | (simp [*]; done)), H', ⟨Nat.le_refl _⟩, ⟨by (with_reducible repeat (first | refine zE ?_ _ | refine zI ?_ | refine zD ?_ _)); exact BK1567.out⟩, ⟨by repeat (first | (with_reducible first | exact HB.out | apply zG | apply zA | apply zF | refine zH ?_ GE1567.out) | exact HB.out)⟩⟩
 case round =>
  clear H'
  try clear c1
  try clear p2
  obtain ⟨x3_1, rfl, HA, HK1, BK1567, HB⟩ := hrel
  cases gk with
  | zero => exact absurd HA.out (by simp [yP.l0])
  | succ k1 =>
   have H := HA.out
   clear HA
   simp only [yP.l0] at H
   replace H := Option.bind_eq_some_iff.mp H
   obtain ⟨t1568, A30, H⟩ := H
   replace H : (if t1568 = true then (some x3_1) else (yP.l0 k1 (wrap64 (x3_1 + 1)) a0_0 a0_1 a0_2)) = some r := H
   have A3 := zC.mk A30
   clear A30
   by_cases c4 : t1568 = true
   ·
    subst c4
    have H1 : (some x3_1) = some r := by rw [if_pos rfl] at H; exact H
    clear H
    have H := H1
    clear H1
    obtain rfl := Option.some.inj H
    have hcz5_0 : wr.cell? ⟨gb1567, 0, none⟩ = some (.int .i64 a0_0) := zB BK1567.out 0
    have hcz5_1 : wr.cell? ⟨gb1567, 1, none⟩ = some (.int .i64 a0_1) := zB BK1567.out 1
    have hcz5_2 : wr.cell? ⟨gb1567, 2, none⟩ = some (.int .i64 a0_2) := zB BK1567.out 2
    have hfz5_0 := zJ BK1567.out 0
    have hfz5_1 := zJ BK1567.out 1
    have hfz5_2 := zJ BK1567.out 2
    go_wp2_with (first | ((with_reducible refine zS (f := 153) rfl ?_); refine zZ (some 7) rfl rfl Try.func153 (by kernel_rfl) rfl #[.agg #[.int .i64 a0_0, .int .i64 a0_1, .int .i64 a0_2], .agg #[.int .i64 0, .int .i64 x3_1]] rfl (by (try simp only [List.map_toArray, List.map_cons, List.map_nil]); first | done | rfl) ?_; (with_reducible refine (wK.calls a0_0 a0_1 a0_2 0 x3_1 true _ A3.out).mono ?_); rintro e w6 ⟨rfl, hb⟩; refine ⟨_, rfl, ?_⟩; have n0_ := zC.mk (zK (g := gb1567) (o := .cells #[.int .i64 a0_0, .int .i64 a0_1, .int .i64 a0_2] 28 (0, 0)) (by (with_reducible repeat (first | refine zE ?_ _ | refine zI ?_ | refine zD ?_ _)); exact BK1567.out) hb); have n1_ := zC.mk (zL (by repeat (first | (with_reducible first | exact HB.out | apply zG | apply zA | apply zF | refine zH ?_ GE1567.out) | exact HB.out)) hb); clear BK1567; clear HB; have BK1567 := n0_; have HB := n1_; clear n0_ n1_; (try clear hb)))
    go_ret
    exact ⟨by first | rfl | (simp [*, errW_none, errW_some] <;> rfl), by repeat (first | (with_reducible first | exact HB.out | apply zG | apply zA | apply zF | refine zH ?_ GE1567.out) | exact HB.out)⟩
   ·
    replace c4 := Bool.eq_false_iff.mpr c4
    subst c4
    have H1 : (yP.l0 k1 (wrap64 (x3_1 + 1)) a0_0 a0_1 a0_2) = some r := by rw [if_neg (show ¬ (false = true) by decide)] at H; exact H
    clear H
    have H := H1
    clear H1
    have H' := zC.mk H
    clear H
    have hcz7_0 : wr.cell? ⟨gb1567, 0, none⟩ = some (.int .i64 a0_0) := zB BK1567.out 0
    have hcz7_1 : wr.cell? ⟨gb1567, 1, none⟩ = some (.int .i64 a0_1) := zB BK1567.out 1
    have hcz7_2 : wr.cell? ⟨gb1567, 2, none⟩ = some (.int .i64 a0_2) := zB BK1567.out 2
    have hfz7_0 := zJ BK1567.out 0
    have hfz7_1 := zJ BK1567.out 1
    have hfz7_2 := zJ BK1567.out 2
    go_wp2_with (first | ((with_reducible refine zS (f := 153) rfl ?_); refine zZ (some 7) rfl rfl Try.func153 (by kernel_rfl) rfl #[.agg #[.int .i64 a0_0, .int .i64 a0_1, .int .i64 a0_2], .agg #[.int .i64 0, .int .i64 x3_1]] rfl (by (try simp only [List.map_toArray, List.map_cons, List.map_nil]); first | done | rfl) ?_; (with_reducible refine (wK.calls a0_0 a0_1 a0_2 0 x3_1 false _ A3.out).mono ?_); rintro e w8 ⟨rfl, hb⟩; refine ⟨_, rfl, ?_⟩; have n0_ := zC.mk (zK (g := gb1567) (o := .cells #[.int .i64 a0_0, .int .i64 a0_1, .int .i64 a0_2] 28 (0, 0)) (by (with_reducible repeat (first | refine zE ?_ _ | refine zI ?_ | refine zD ?_ _)); exact BK1567.out) hb); have n1_ := zC.mk (zL (by repeat (first | (with_reducible first | exact HB.out | apply zG | apply zA | apply zF | refine zH ?_ GE1567.out) | exact HB.out)) hb); clear BK1567; clear HB; have BK1567 := n0_; have HB := n1_; clear n0_ n1_; (try clear hb)))
    go_roundg k1
    case measure => have := HK1.out; omega
    case rel => exact ⟨(wrap64 (x3_1 + 1)), (by first | rfl | (simp; done) | (simp [*]; done)), H', ⟨by have := HK1.out; omega⟩, ⟨by (with_reducible repeat (first | refine zE ?_ _ | refine zI ?_ | refine zD ?_ _)); exact BK1567.out⟩, ⟨by repeat (first | (with_reducible first | exact HB.out | apply zG | apply zA | apply zF | refine zH ?_ GE1567.out) | exact HB.out)⟩⟩
theorem yX.calls (k : Nat) (a0_0 : Int) (a0_1 : Int) (a0_2 : Int) (a1 : Int) (r1 : Int) (r2 : Bool) (w : World) (h : yX.f k a0_0 a0_1 a0_2 a1 = some (r1, r2)) :
  Calls Try.prog 110 #[.agg #[.int .i64 a0_0, .int .i64 a0_1, .int .i64 a0_2], .int .i64 a1] w fun e w' => e = .returned (.tuple #[.int .i64 r1, .bool r2]) ∧ Below w.heap.size w w' := by
 have hu28 := Try.underlying28
 have hu38 := Try.underlying38
 have HB := zC.mk (Below.refl w.heap.size w)
 have H : ((yP.f k a0_0 a0_1 a0_2).bind fun t1680 => (yX.l0 k a1 t1680 0 a0_0 a0_1 a0_2)) = some (r1, r2) := h
 clear h
 replace H := Option.bind_eq_some_iff.mp H
 obtain ⟨t1680, A30, H⟩ := H
 replace H : (yX.l0 k a1 t1680 0 a0_0 a0_1 a0_2) = some (r1, r2) := H
 have A3 := zC.mk A30
 clear A30
 have H' := zC.mk H
 clear H
 go_enter Try.func110, Try.ntmps110
 go_wp2_with (first | ((with_reducible refine zP (N := 2) rfl ?_); refine zO ?hg (N := 2) ?hd (cs := #[.int .i64 a0_0, .int .i64 a0_1, .int .i64 a0_2]) (t := 28) ?hr ?_; (case hd => rfl); (case hg => rfl); (case hr => first | (go_simp; done) | (go_simp; rfl)); intro gb1679 hg w4 hbox hb; have n0_ := zC.mk (zL (by repeat (first | (with_reducible first | exact HB.out | apply zG | apply zA | apply zF) | exact HB.out)) hb); have n1_ := zC.mk (hbox); have n2_ := zC.mk ((by rw [hg]; exact (zM (by repeat (first | (with_reducible first | exact HB.out | apply zG | apply zA | apply zF) | exact HB.out))) : w.heap.size ≤ gb1679)); have n3_ := n2_; clear HB; have HB := n0_; have BK1679 := n1_; have GW1679 := n2_; have GE1679 := n3_; clear n0_ n1_ n2_ n3_; clear hb hbox hg; have hcz5_0 : w4.cell? ⟨gb1679, 0, none⟩ = some (.int .i64 a0_0) := zB BK1679.out 0; have hcz5_1 : w4.cell? ⟨gb1679, 1, none⟩ = some (.int .i64 a0_1) := zB BK1679.out 1; have hcz5_2 : w4.cell? ⟨gb1679, 2, none⟩ = some (.int .i64 a0_2) := zB BK1679.out 2; have hfz5_0 := zJ BK1679.out 0; have hfz5_1 := zJ BK1679.out 1; have hfz5_2 := zJ BK1679.out 2) | ((with_reducible refine zS (f := 106) rfl ?_); refine zZ (some 9) rfl rfl Try.func106 (by kernel_rfl) rfl #[.agg #[.int .i64 a0_0, .int .i64 a0_1, .int .i64 a0_2]] rfl (by (try simp only [List.map_toArray, List.map_cons, List.map_nil]); first | done | rfl) ?_; (with_reducible refine (yP.calls k a0_0 a0_1 a0_2 t1680 _ A3.out).mono ?_); rintro e w6 ⟨rfl, hb⟩; refine ⟨_, rfl, ?_⟩; have n0_ := zC.mk (zK (g := gb1679) (o := .cells #[.int .i64 a0_0, .int .i64 a0_1, .int .i64 a0_2] 28 (0, 0)) (by (with_reducible repeat (first | refine zE ?_ _ | refine zI ?_ | refine zD ?_ _)); exact BK1679.out) hb); have n1_ := zC.mk (zL (by repeat (first | (with_reducible first | exact HB.out | apply zG | apply zA | apply zF | refine zH ?_ GE1679.out) | exact HB.out)) hb); clear BK1679; clear HB; have BK1679 := n0_; have HB := n1_; clear n0_ n1_; (try clear hb)))
 go_loopg [7] k (fun kq v7 w' => ∃ (x7_1 : Int), v7 = .int .i64 x7_1 ∧ zC (yX.l0 kq a1 t1680 x7_1 a0_0 a0_1 a0_2 = some (r1, r2)) ∧ zC (kq ≤ k) ∧ zC (w'.heap[gb1679]? = some (.cells #[.int .i64 a0_0, .int .i64 a0_1, .int .i64 a0_2] 28 (0, 0))) ∧ zC (Below w.heap.size w w'))
 case atStart => exact ⟨(0), (by first | rfl | (simp; done) | (simp [*]; done)), H', ⟨Nat.le_refl _⟩, ⟨by (with_reducible repeat (first | refine zE ?_ _ | refine zI ?_ | refine zD ?_ _)); exact BK1679.out⟩, ⟨by repeat (first | (with_reducible first | exact HB.out | apply zG | apply zA | apply zF | refine zH ?_ GE1679.out) | exact HB.out)⟩⟩
 case round =>
  clear H'
  try clear c1
  try clear p2
  try clear hcz5_0
  try clear hcz5_1
  try clear hcz5_2
  try clear hfz5_0
  try clear hfz5_1
  try clear hfz5_2
  obtain ⟨x7_1, rfl, HA, HK1, BK1679, HB⟩ := hrel
  cases gk with
  | zero => exact absurd HA.out (by simp [yX.l0])
  | succ k1 =>
   have H := HA.out
   clear HA
   simp only [yX.l0] at H
   by_cases c7 : x7_1 < t1680
   ·
    rw [if_pos c7] at H
    have c7b0 : decide (x7_1 < t1680) = true := decide_eq_true c7
    clear c7
    replace H := Option.bind_eq_some_iff.mp H
    obtain ⟨t1681, A80, H⟩ := H
    replace H : (if t1681 = true then (some (x7_1, true)) else (yX.l0 k1 a1 t1680 (wrap64 (x7_1 + 1)) a0_0 a0_1 a0_2)) = some (r1, r2) := H
    have A8 := zC.mk A80
    clear A80
    by_cases c9 : t1681 = true
    ·
     subst c9
     have H1 : (some (x7_1, true)) = some (r1, r2) := by rw [if_pos rfl] at H; exact H
     clear H
     have H := H1
     clear H1
     simp only [Option.some.injEq, Prod.mk.injEq] at H
     obtain ⟨rfl, rfl⟩ := H
     have hcz10_0 : wr.cell? ⟨gb1679, 0, none⟩ = some (.int .i64 a0_0) := zB BK1679.out 0
     have hcz10_1 : wr.cell? ⟨gb1679, 1, none⟩ = some (.int .i64 a0_1) := zB BK1679.out 1
     have hcz10_2 : wr.cell? ⟨gb1679, 2, none⟩ = some (.int .i64 a0_2) := zB BK1679.out 2
     have hfz10_0 := zJ BK1679.out 0
     have hfz10_1 := zJ BK1679.out 1
     have hfz10_2 := zJ BK1679.out 2
     go_wp2_with (first | ((with_reducible refine zS (f := 153) rfl ?_); refine zZ (some 20) rfl rfl Try.func153 (by kernel_rfl) rfl #[.agg #[.int .i64 a0_0, .int .i64 a0_1, .int .i64 a0_2], .agg #[.int .i64 a1, .int .i64 (wrap64 (-x7_1))]] rfl (by (try simp only [List.map_toArray, List.map_cons, List.map_nil]); first | done | rfl) ?_; (with_reducible refine (wK.calls a0_0 a0_1 a0_2 a1 (wrap64 (-x7_1)) true _ A8.out).mono ?_); rintro e w11 ⟨rfl, hb⟩; refine ⟨_, rfl, ?_⟩; have n0_ := zC.mk (zK (g := gb1679) (o := .cells #[.int .i64 a0_0, .int .i64 a0_1, .int .i64 a0_2] 28 (0, 0)) (by (with_reducible repeat (first | refine zE ?_ _ | refine zI ?_ | refine zD ?_ _)); exact BK1679.out) hb); have n1_ := zC.mk (zL (by repeat (first | (with_reducible first | exact HB.out | apply zG | apply zA | apply zF | refine zH ?_ GE1679.out) | exact HB.out)) hb); clear BK1679; clear HB; have BK1679 := n0_; have HB := n1_; clear n0_ n1_; (try clear hb)))
     go_ret2
     exact ⟨by first | rfl | (simp [*, errW_none, errW_some] <;> rfl), by repeat (first | (with_reducible first | exact HB.out | apply zG | apply zA | apply zF | refine zH ?_ GE1679.out) | exact HB.out)⟩
    ·
     replace c9 := Bool.eq_false_iff.mpr c9
     subst c9
     have H1 : (yX.l0 k1 a1 t1680 (wrap64 (x7_1 + 1)) a0_0 a0_1 a0_2) = some (r1, r2) := by rw [if_neg (show ¬ (false = true) by decide)] at H; exact H
     clear H
     have H := H1
     clear H1
     have H' := zC.mk H
     clear H
     have hcz12_0 : wr.cell? ⟨gb1679, 0, none⟩ = some (.int .i64 a0_0) := zB BK1679.out 0
     have hcz12_1 : wr.cell? ⟨gb1679, 1, none⟩ = some (.int .i64 a0_1) := zB BK1679.out 1
     have hcz12_2 : wr.cell? ⟨gb1679, 2, none⟩ = some (.int .i64 a0_2) := zB BK1679.out 2
     have hfz12_0 := zJ BK1679.out 0
     have hfz12_1 := zJ BK1679.out 1
     have hfz12_2 := zJ BK1679.out 2
     go_wp2_with (first | ((with_reducible refine zS (f := 153) rfl ?_); refine zZ (some 20) rfl rfl Try.func153 (by kernel_rfl) rfl #[.agg #[.int .i64 a0_0, .int .i64 a0_1, .int .i64 a0_2], .agg #[.int .i64 a1, .int .i64 (wrap64 (-x7_1))]] rfl (by (try simp only [List.map_toArray, List.map_cons, List.map_nil]); first | done | rfl) ?_; (with_reducible refine (wK.calls a0_0 a0_1 a0_2 a1 (wrap64 (-x7_1)) false _ A8.out).mono ?_); rintro e w13 ⟨rfl, hb⟩; refine ⟨_, rfl, ?_⟩; have n0_ := zC.mk (zK (g := gb1679) (o := .cells #[.int .i64 a0_0, .int .i64 a0_1, .int .i64 a0_2] 28 (0, 0)) (by (with_reducible repeat (first | refine zE ?_ _ | refine zI ?_ | refine zD ?_ _)); exact BK1679.out) hb); have n1_ := zC.mk (zL (by repeat (first | (with_reducible first | exact HB.out | apply zG | apply zA | apply zF | refine zH ?_ GE1679.out) | exact HB.out)) hb); clear BK1679; clear HB; have BK1679 := n0_; have HB := n1_; clear n0_ n1_; (try clear hb)))
     go_roundg k1
     case measure => have := HK1.out; omega
     case rel => exact ⟨(wrap64 (x7_1 + 1)), (by first | rfl | (simp; done) | (simp [*]; done)), H', ⟨by have := HK1.out; omega⟩, ⟨by (with_reducible repeat (first | refine zE ?_ _ | refine zI ?_ | refine zD ?_ _)); exact BK1679.out⟩, ⟨by repeat (first | (with_reducible first | exact HB.out | apply zG | apply zA | apply zF | refine zH ?_ GE1679.out) | exact HB.out)⟩⟩
   ·
    rw [if_neg c7] at H
    have c7b0 : decide (x7_1 < t1680) = false := decide_eq_false c7
    clear c7
    simp only [Option.some.injEq, Prod.mk.injEq] at H
    obtain ⟨rfl, rfl⟩ := H
    go_wp2
    go_ret2
    exact ⟨by first | rfl | (simp [*, errW_none, errW_some] <;> rfl), by repeat (first | (with_reducible first | exact HB.out | apply zG | apply zA | apply zF | refine zH ?_ GE1679.out) | exact HB.out)⟩
theorem yS.calls (k : Nat) (a0 : Int) (a1 : Int) (a2 : Int) (a3 : Int) (r : List Int) (w : World) (h : yS.f k a0 a1 a2 a3 = some r) :
  Calls Try.prog 113 #[.int .i64 a0, .int .i64 a1, .int .i64 a2, .int .i64 a3] w fun e w' => ∃ v0_ : Value, e = .returned (v0_) ∧ Kd.R (Kd.int .i64) 2 w' w.heap.size (fun _ => True) v0_ r ∧ Below w.heap.size w w' := by
 have HB := zC.mk (Below.refl w.heap.size w)
 have H : (yS.l0 k a0 a1 a2 a3 (([0] : List Int)) 1) = some r := h
 clear h
 obtain ⟨y1783, hy1783⟩ : ∃ y_ : List Int, y_ = (([0] : List Int)) := ⟨_, rfl⟩
 replace H : (yS.l0 k a0 a1 a2 a3 y1783 1) = some r := by first | (rw [hy1783]; with_reducible exact H) | (have H2_ := (Option.bind_some _ _).symm.trans H; rw [hy1783]; with_reducible exact H2_) | (have H2_ := (Option.bind_some _ _).symm.trans H; with_reducible exact H2_) | with_reducible exact H | (rw [hy1783]; exact H) | exact H
 have Ny1783 := zC.mk hy1783
 clear hy1783
 have H' := zC.mk H
 clear H
 go_enter Try.func113, Try.ntmps113
 go_wp2_with (first | ((with_reducible refine zP (N := 12) rfl ?_); refine Kd.R_lit (Kd.int .i64) _ 2 ?hg (N := 12) ?hd (xs := ([0] : List Int)) (inner := [.int .i64 0]) (ok := fun _ => True) (okp := fun _ => True) ?hr ?hp (fun _ hk => hk) trivial (Below.refl _ _) (Nat.le_refl _) (by simp) ?_; (case hd => rfl); (case hg => rfl); (case hr => first | (go_simp; done) | (go_simp; rfl)); (case hp => exact (Reps.one (show Kd.M (Kd.int .i64) _ _ _ 0 [.int .i64 0] from rfl) (Reps.none _ _))); intro v1784 w5 ho6 hb hg_ hnew_; clear hg_ hnew_; (first | rw [← Ny1783.out] at ho6 | (simp only [Int.reduceToNat] at ho6; rw [← Ny1783.out] at ho6)); have n0_ := zC.mk (Kd.R_lower ho6 (zM (by repeat (first | (with_reducible first | exact HB.out | apply zG | apply zA | apply zF) | exact HB.out)))); have n1_ := zC.mk (zL (by repeat (first | (with_reducible first | exact HB.out | apply zG | apply zA | apply zF) | exact HB.out)) hb); clear HB; have HO1785 := n0_; have HB := n1_; clear n0_ n1_; clear hb ho6))
 go_loopg [9, 10] k (fun kq v9 v10 w' => ∃ (x9_1 : List Int) (x10_1 : Int), v10 = .int .i64 x10_1 ∧ zC (yS.l0 kq a0 a1 a2 a3 x9_1 x10_1 = some r) ∧ zC (kq ≤ k) ∧ zC (Kd.R (Kd.int .i64) 2 w' w.heap.size (fun _ => True) v9 x9_1) ∧ zC (Below w.heap.size w w'))
 case atStart => exact ⟨(y1783), (1), (by first | rfl | (simp; done) | (simp [*]; done)), H', ⟨Nat.le_refl _⟩, ⟨by (with_reducible repeat (first | apply Kd.R_alloc | apply Kd.R_drewN | apply Kd.R_drew)); exact HO1785.out⟩, ⟨by repeat (first | (with_reducible first | exact HB.out | apply zG | apply zA | apply zF) | exact HB.out)⟩⟩
 case round =>
  clear H'
  try clear c1
  try clear p2
  obtain ⟨x9_1, x10_1, rfl, HA, HK1, HO_9, HB⟩ := hrel
  cases gk with
  | zero => exact absurd HA.out (by simp [yS.l0])
  | succ k1 =>
   have H := HA.out
   clear HA
   simp only [yS.l0] at H
   by_cases c7 : x10_1 < a3
   ·
    rw [if_pos c7] at H
    have c7b0 : decide (x10_1 < a3) = true := decide_eq_true c7
    clear c7
    obtain ⟨ji8, hji8⟩ : ∃ j_ : Int, (wrap64 (x10_1 - 1)) = j_ := ⟨_, rfl⟩
    replace H : (if 0 ≤ (ji8) then (if (ji8) < (x9_1.length : Int) then ((xU.f (wrap64 ((wrap64 (x10_1 * a1)) - (wrap64 ((rd x9_1 (ji8)) + a2)))) a0).bind fun t1787 => (if x9_1.length < 17592186044416 then (yS.l0 k1 a0 a1 a2 a3 (x9_1 ++ [wrap64 ((wrap64 ((rd x9_1 (ji8)) + a2)) + t1787)]) (wrap64 (x10_1 + 1))) else (none))) else (none)) else (none)) = some r := by first | (rw [hji8] at H; exact H) | (simp only [hji8] at H ⊢; exact H)
    have hji8w : (IntKind.i64.wrap (x10_1 - 1)) = ji8 := (zQ _).trans hji8
    by_cases c9 : 0 ≤ (ji8)
    ·
     rw [if_pos c9] at H
     have c9b0 : decide (0 ≤ (ji8)) = true := decide_eq_true c9
     clear c9
     by_cases c10 : (ji8) < (x9_1.length : Int)
     ·
      rw [if_pos c10] at H
      have c10b0 : decide ((ji8) < (x9_1.length : Int)) = true := decide_eq_true c10
      clear c10
      replace H := Option.bind_eq_some_iff.mp H
      obtain ⟨t1787, A110, H⟩ := H
      replace H : (if x9_1.length < 17592186044416 then (yS.l0 k1 a0 a1 a2 a3 (x9_1 ++ [wrap64 ((wrap64 ((rd x9_1 (ji8)) + a2)) + t1787)]) (wrap64 (x10_1 + 1))) else (none)) = some r := H
      have A11 := zC.mk A110
      clear A110
      by_cases c12 : x9_1.length < 17592186044416
      ·
       rw [if_pos c12] at H
       have LMc12 := zC.mk c12
       clear c12
       obtain ⟨y1788, hy1788⟩ : ∃ y_ : List Int, y_ = (x9_1 ++ [wrap64 ((wrap64 ((rd x9_1 (ji8)) + a2)) + t1787)]) := ⟨_, rfl⟩
       replace H : (yS.l0 k1 a0 a1 a2 a3 y1788 (wrap64 (x10_1 + 1))) = some r := by first | (rw [hy1788]; with_reducible exact H) | (have H2_ := (Option.bind_some _ _).symm.trans H; rw [hy1788]; with_reducible exact H2_) | (have H2_ := (Option.bind_some _ _).symm.trans H; with_reducible exact H2_) | with_reducible exact H | (rw [hy1788]; exact H) | exact H
       have Ny1788 := zC.mk hy1788
       clear hy1788
       have H' := zC.mk H
       clear H
       obtain ⟨Ao13, co13, eo13⟩ := Kd.R_slice HO_9.out
       subst eo13
       have p1786 : 0 ≤ ((ji8) : Int) := of_decide_eq_true (by first | (with_reducible assumption) | assumption)
       have q1786 : (ji8) < (x9_1.length : Int) := of_decide_eq_true (by first | (with_reducible assumption) | assumption)
       obtain ⟨ad1786, e1786, hx1786_0⟩ := Kd.at_int (Kd.R_reads' HO_9.out).2.2 (ji8) p1786 q1786
       cases e1786
       replace p1786 := eq_true p1786
       replace q1786 := eq_true q1786
       go_wp2_with (first | ((with_reducible refine zS (f := 156) rfl ?_); refine zZ (some 33) rfl rfl Try.func156 (by kernel_rfl) rfl #[.int .i64 (wrap64 ((wrap64 (x10_1 * a1)) - (wrap64 ((rd x9_1 (ji8)) + a2)))), .int .i64 a0] rfl (by (try simp only [List.map_toArray, List.map_cons, List.map_nil]); first | done | (simp only [hji8]; rfl) | rfl | (simp only [List.length_drop, List.length_take]; rfl)) ?_; (with_reducible refine (xU.calls (wrap64 ((wrap64 (x10_1 * a1)) - (wrap64 ((rd x9_1 (ji8)) + a2)))) a0 t1787 _ A11.out).mono ?_); rintro e w' ⟨rfl, ⟨nd, rfl⟩⟩; refine ⟨_, rfl, ?_⟩) | ((with_reducible refine gate_builtin (b := .append) (xs := #[.tmp 25, .tmp 35]) rfl ?_); at_builtin; refine Kd.R_append (Kd.int .i64) (w0 := w) w.heap.size rfl (.tmp 25) (.tmp 35) 24 2 (.int .i64 0) 8 rfl Try.underlying24 info2 rfl (by decide) (by omega) (.slice (some ad1786) x9_1.length co13) x9_1 (wrap64 ((wrap64 ((rd x9_1 (ji8)) + a2)) + t1787)) [.int .i64 (wrap64 ((wrap64 ((rd x9_1 (ji8)) + a2)) + t1787))] (fun _ => True) (fun _ => False) rfl rfl ?aP (fun _ hk => hk.elim) ?aF ?aO ?aB ?aS ?aL ?_; (case aP => exact rfl); (case aB => exact (by repeat (first | (with_reducible first | exact HB.out | apply zG | apply zA | apply zF) | exact HB.out))); (case aF => exact (fun _ _ => trivial)); (case aO => exact (by (with_reducible repeat (first | apply Kd.R_alloc | apply Kd.R_drewN | apply Kd.R_drew)); exact HO_9.out)); (case aS => exact (zM (by repeat (first | (with_reducible first | exact HB.out | apply zG | apply zA | apply zF) | exact HB.out)))); (case aL => have := LMc12.out; omega); intro v1789 w14 ho hb hg hat; rw [← Ny1788.out] at ho; have n0_ := zC.mk (hb); have n1_ := zC.mk (ho); clear HB; clear HO_9; have HB := n0_; have HO1790 := n1_; clear n0_ n1_; clear ho hb hg hat))
       go_roundg k1
       case measure => have := HK1.out; omega
       case rel => exact ⟨(y1788), (wrap64 (x10_1 + 1)), (by first | rfl | (simp; done) | (simp [*]; done)), H', ⟨by have := HK1.out; omega⟩, ⟨by (with_reducible repeat (first | apply Kd.R_alloc | apply Kd.R_drewN | apply Kd.R_drew)); exact HO1790.out⟩, ⟨by repeat (first | (with_reducible first | exact HB.out | apply zG | apply zA | apply zF) | exact HB.out)⟩⟩
      ·
       rw [if_neg c12] at H
       exact absurd H (by simp)
     ·
      rw [if_neg c10] at H
      exact absurd H (by simp)
    ·
     rw [if_neg c9] at H
     exact absurd H (by simp)
   ·
    rw [if_neg c7] at H
    have c7b0 : decide (x10_1 < a3) = false := decide_eq_false c7
    clear c7
    obtain rfl := Option.some.inj H
    go_wp2
    go_ret
    exact ⟨_, by first | rfl | (simp [*, errW_none, errW_some] <;> rfl), by (with_reducible repeat (first | apply Kd.R_alloc | apply Kd.R_drewN | apply Kd.R_drew)); exact HO_9.out, by repeat (first | (with_reducible first | exact HB.out | apply zG | apply zA | apply zF) | exact HB.out)⟩
end Go.Proofs.Ytomgliinndfliaa.X
