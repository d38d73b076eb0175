/- Part of the proof of the law FnExactDropOf: each function of the code computes what its plain function says. No condition of its own. -/
import Derived.Test.YtomgliinndfliaaCFnExactDropOfW2
namespace Go.Proofs.Ytomgliinndfliaa.X
open Go.RowKit Go.Proofs.YtomgliinndfliaaW.PrintWords Go.Proofs.YtomgliinndfliaaW.PrintLast Go.Proofs.YtomgliinndfliaaW.PrintMore
attribute [local go_sem] max2_int min2_int max_two min_two max_three min_three max_four min_four   -- for this text's walks alone
set_option linter.unusedVariables false
set_option linter.unusedSimpArgs false

/-! ### impl_latticeOf: function 130 -/
def impl_latticeOf.T7 : Bool × List (List Nat × List Nat) := (true, [([], []), ([], []), ([], []), ([], []), ([3], [3]), ([2, 4], [2, 4]), ([1, 5, 5], [1, 5]), ([0, 6, 0, 1], [0]), ([6, 7, 0, 1, 2, 3, 4, 5, 6, 7], [6])])
def impl_latticeOf.B7 : List Nat := [0, 0, 0, 0, 8, 28, 62, 127, 255]
theorem impl_latticeOf.tab7 : rtab .any (opsOf Try.f130 7) = impl_latticeOf.T7 := by kernel_rfl
theorem impl_latticeOf.bits7 : waitsOk impl_latticeOf.T7.2 impl_latticeOf.B7 = true := by kernel_rfl
def impl_latticeOf.T12 : Bool × List (List Nat × List Nat) := (true, [([], []), ([], []), ([1], [1]), ([], []), ([2, 3], [2, 3]), ([], []), ([5], [5]), ([0, 4, 6], [0, 4, 6]), ([7, 4, 0, 1, 2, 3, 4, 5, 6, 7], [7])])
def impl_latticeOf.B12 : List Nat := [0, 0, 2, 0, 14, 0, 32, 127, 255]
theorem impl_latticeOf.tab12 : rtab .any (opsOf Try.f130 12) = impl_latticeOf.T12 := by kernel_rfl
theorem impl_latticeOf.bits12 : waitsOk impl_latticeOf.T12.2 impl_latticeOf.B12 = true := by kernel_rfl
set_option maxHeartbeats 8000000 in
set_option maxRecDepth 100000 in
theorem impl_latticeOf.calls (k : Nat) (A0 : Option Addr) (c0 : Nat) (l0 : List (S38)) (r1 : Int) (r2 : Int) (r3 : Int) (w : World) (hr0 : Kd.C k38 w A0 l0.length l0) (hc0 : l0.length ≤ c0) (h : impl_latticeOf.f k l0 = some (r1, r2, r3)) :
  Calls Try.prog 130 #[.slice A0 l0.length c0] w fun e w' => e = .returned (.agg #[.int .i64 r1, .int .i64 r2, .int .i64 r3]) ∧ Below w.heap.size w w' := by
 have hu28 := Try.underlying28
 have hu38 := Try.underlying38
 have HR0 := zC.mk hr0
 have HC0 := zC.mk hc0
 clear hr0 hc0
 have HB := zC.mk (Below.refl w.heap.size w)
 have H : (impl_latticeOf.l0 k 0 l0 (l0.length : Int) 0 0 0) = some (r1, r2, r3) := h
 clear h
 have H' := zC.mk H
 clear H
 go_enter Try.func130, Try.ntmps130
 go_wp2_with (first | ((with_reducible refine zQ (N := 2) rfl ?_); refine zN ?hg (N := 2) ?hd (cs := #[.int .i64 0, .int .i64 0, .int .i64 0]) (t := 28) ?hr ?_; (case hd => rfl); (case hg => rfl); (case hr => first | (go_simp; done) | (go_simp; rfl)); intro gb451 hg w2 hbox hb; have n0_ := zC.mk (zL (by repeat (first | (with_reducible first | exact HB.out | apply zI | apply zB | apply zF) | exact HB.out)) hb); have n1_ := zC.mk (hbox); have n2_ := zC.mk ((by rw [hg]; exact (zM (by repeat (first | (with_reducible first | exact HB.out | apply zI | apply zB | apply zF) | exact HB.out))) : w.heap.size ≤ gb451)); have n3_ := n2_; clear HB; have HB := n0_; have BK451 := n1_; have GW451 := n2_; have GE451 := n3_; clear n0_ n1_ n2_ n3_; clear hb hbox hg) | ((with_reducible refine zQ (N := 4) rfl ?_); refine zN ?hg (N := 4) ?hd (cs := #[.int .i64 0, .int .i64 0]) (t := 38) ?hr ?_; (case hd => rfl); (case hg => rfl); (case hr => first | (go_simp; done) | (go_simp; rfl)); intro gb452 hg w3 hbox hb; have n0_ := zC.mk (zK (g := gb451) (o := .cells #[.int .i64 0, .int .i64 0, .int .i64 0] 28 (0, 0)) (by (with_reducible repeat (first | refine zD ?_ _ | refine zG ?_ | refine zE ?_ _)); exact BK451.out) hb); have n1_ := zC.mk (zL (by repeat (first | (with_reducible first | exact HB.out | apply zI | apply zB | apply zF | refine zH ?_ GE451.out) | exact HB.out)) hb); have n2_ := zC.mk (hbox); have n3_ := zC.mk ((by rw [hg]; exact (zM (by repeat (first | (with_reducible first | exact HB.out | apply zI | apply zB | apply zF | refine zH ?_ GE451.out) | exact HB.out))) : w.heap.size ≤ gb452)); have n4_ := n3_; have n5_ := zC.mk ((by rw [hg]; exact Nat.ne_of_lt (zX (by (with_reducible repeat (first | refine zD ?_ _ | refine zG ?_ | refine zE ?_ _)); exact BK451.out)) : gb451 ≠ gb452)); have n6_ := zC.mk n5_.out.symm; clear BK451; clear HB; have BK451 := n0_; have HB := n1_; have BK452 := n2_; have GW452 := n3_; have GE452 := n4_; have NB451_452 := n5_; have NB452_451 := n6_; clear n0_ n1_ n2_ n3_ n4_ n5_ n6_; clear hb hbox hg; have hnb4 := NB452_451.out; have hnc4 := NB451_452.out; have hcz5_0 : w3.cell? ⟨gb452, 0, none⟩ = some (.int .i64 0) := (zA BK452.out 0).trans rfl; have hcz5_1 : w3.cell? ⟨gb452, 1, none⟩ = some (.int .i64 0) := (zA BK452.out 1).trans rfl; have hfz5_0 := zJ BK452.out 0; have hfz5_1 := zJ BK452.out 1))
 go_loopg [3, 11] k (fun kq v3 v11 w' => ∃ (x3_1 : Int) (x11_1 : Int) (x453000_1 : Int) (x453001_1 : Int), v3 = .int .i64 x3_1 ∧ v11 = .int .i64 x11_1 ∧ zC (impl_latticeOf.l0 kq x3_1 l0 (l0.length : Int) x11_1 x453000_1 x453001_1 = some (r1, r2, r3)) ∧ zC (kq ≤ k) ∧ zC (w'.heap[gb451]? = some (.cells #[.int .i64 0, .int .i64 0, .int .i64 0] 28 (0, 0))) ∧ zC (w'.heap[gb452]? = some (.cells #[.int .i64 x453000_1, .int .i64 x453001_1] 38 (0, 0))) ∧ zC (Below w.heap.size w w'))
 case atStart => exact ⟨(0), (0), (0), (0), (by first | rfl | (simp; done) | (simp [*]; done)), (by first | rfl | (simp; done) | (simp [*]; done)), H', ⟨Nat.le_refl _⟩, ⟨by (with_reducible repeat (first | refine zD ?_ _ | refine zG ?_ | refine zE ?_ _)); refine zV ?_ NB451_452.out _; (with_reducible repeat (first | refine zD ?_ _ | refine zG ?_ | refine zE ?_ _)); refine zV ?_ NB451_452.out _; (with_reducible repeat (first | refine zD ?_ _ | refine zG ?_ | refine zE ?_ _)); exact BK451.out⟩, ⟨by (with_reducible repeat (first | refine zD ?_ _ | refine zG ?_ | refine zE ?_ _)); refine zS (cs := #[.int .i64 0, .int .i64 0]) ?_ 1 _ rfl; (with_reducible repeat (first | refine zD ?_ _ | refine zG ?_ | refine zE ?_ _)); refine zS (cs := #[.int .i64 0, .int .i64 0]) ?_ 0 _ rfl; (with_reducible repeat (first | refine zD ?_ _ | refine zG ?_ | refine zE ?_ _)); exact BK452.out⟩, ⟨by repeat (first | (with_reducible first | exact HB.out | apply zI | apply zB | apply zF | refine zH ?_ GE451.out | refine zH ?_ GE452.out) | exact HB.out)⟩⟩
 case round =>
  clear H'
  try clear c1
  try clear p2
  try clear c4
  try clear hcz5_0
  try clear hcz5_1
  try clear hfz5_0
  try clear hfz5_1
  obtain ⟨x3_1, x11_1, x453000_1, x453001_1, rfl, rfl, HA, HK1, BK451, BK452, HB⟩ := hrel
  cases gk with
  | zero => exact absurd HA.out (by simp [impl_latticeOf.l0])
  | succ k1 =>
   have H := HA.out
   clear HA
   simp only [impl_latticeOf.l0] at H
   by_cases c6 : x11_1 < (l0.length : Int)
   ·
    rw [if_pos c6] at H
    have c6b0 : decide (x11_1 < (l0.length : Int)) = true := decide_eq_true c6
    clear c6
    by_cases c7 : 0 ≤ x11_1
    ·
     rw [if_pos c7] at H
     have c7b0 : decide (0 ≤ x11_1) = true := decide_eq_true c7
     clear c7
     by_cases c8 : x11_1 < (l0.length : Int)
     ·
      rw [if_pos c8] at H
      have c8b0 : decide (x11_1 < (l0.length : Int)) = true := decide_eq_true c8
      clear c8
      have H' := zC.mk H
      clear H
      have p453 : 0 ≤ (x11_1 : Int) := of_decide_eq_true (by first | (with_reducible assumption) | assumption)
      have q453 : x11_1 < (l0.length : Int) := of_decide_eq_true (by first | (with_reducible assumption) | assumption)
      obtain ⟨ad453, e453, hx453_0, hx453_1⟩ := at_T38 HR0.out x11_1 p453 q453
      cases e453
      replace hx453_0 := (HB.out.cell (World.block_lt_of_cell? w _ hx453_0)).trans hx453_0
      replace hx453_1 := (HB.out.cell (World.block_lt_of_cell? w _ hx453_1)).trans hx453_1
      replace p453 := eq_true p453
      replace q453 := eq_true q453
      go_wp2_with (first | ((with_reducible refine zQ (N := 6) rfl ?_); refine zN ?hg (N := 6) ?hd (cs := #[.int .i64 0, .int .i64 0]) (t := 38) ?hr ?_; (case hd => rfl); (case hg => rfl); (case hr => first | (go_simp; done) | (go_simp; rfl)); intro gb454 hg w9 hbox hb; have n0_ := zC.mk (zK (g := gb451) (o := .cells #[.int .i64 0, .int .i64 0, .int .i64 0] 28 (0, 0)) (by (with_reducible repeat (first | refine zD ?_ _ | refine zG ?_ | refine zE ?_ _)); exact BK451.out) hb); have n1_ := zC.mk (zK (g := gb452) (o := .cells #[.int .i64 x453000_1, .int .i64 x453001_1] 38 (0, 0)) (by (with_reducible repeat (first | refine zD ?_ _ | refine zG ?_ | refine zE ?_ _)); exact BK452.out) hb); have n2_ := zC.mk (zL (by repeat (first | (with_reducible first | exact HB.out | apply zI | apply zB | apply zF | refine zH ?_ GE451.out | refine zH ?_ GE452.out) | exact HB.out)) hb); have n3_ := zC.mk (hbox); have n4_ := zC.mk ((by rw [hg]; exact (zM (by repeat (first | (with_reducible first | exact HB.out | apply zI | apply zB | apply zF | refine zH ?_ GE451.out | refine zH ?_ GE452.out) | exact HB.out))) : w.heap.size ≤ gb454)); have n5_ := n4_; have n6_ := zC.mk ((by rw [hg]; exact Nat.ne_of_lt (zX (by (with_reducible repeat (first | refine zD ?_ _ | refine zG ?_ | refine zE ?_ _)); exact BK451.out)) : gb451 ≠ gb454)); have n7_ := zC.mk n6_.out.symm; have n8_ := zC.mk ((by rw [hg]; exact Nat.ne_of_lt (zX (by (with_reducible repeat (first | refine zD ?_ _ | refine zG ?_ | refine zE ?_ _)); exact BK452.out)) : gb452 ≠ gb454)); have n9_ := zC.mk n8_.out.symm; clear BK451; clear BK452; clear HB; have BK451 := n0_; have BK452 := n1_; have HB := n2_; have BK454 := n3_; have GW454 := n4_; have GE454 := n5_; have NB451_454 := n6_; have NB454_451 := n7_; have NB452_454 := n8_; have NB454_452 := n9_; clear n0_ n1_ n2_ n3_ n4_ n5_ n6_ n7_ n8_ n9_; clear hb hbox hg; have hnb10 := NB454_451.out; have hnc10 := NB451_454.out; have hnb11 := NB454_452.out; have hnc11 := NB452_454.out; have hcz12_0 : w9.cell? ⟨gb454, 0, none⟩ = some (.int .i64 0) := (zA BK454.out 0).trans rfl; have hcz12_1 : w9.cell? ⟨gb454, 1, none⟩ = some (.int .i64 0) := (zA BK454.out 1).trans rfl; have hfz12_0 := zJ BK454.out 0; have hfz12_1 := zJ BK454.out 1))
      go_loopg [] k1 (fun kq w' => ∃ (x453000_2 : Int) (x453001_2 : Int) (x455000_2 : Int) (x455001_2 : Int), zC (impl_latticeOf.l1 kq x3_1 l0 (l0.length : Int) x11_1 x453000_2 x453001_2 x455000_2 x455001_2 = some (r1, r2, r3)) ∧ zC (kq ≤ k1) ∧ zC (w'.heap[gb451]? = some (.cells #[.int .i64 0, .int .i64 0, .int .i64 0] 28 (0, 0))) ∧ zC (w'.heap[gb452]? = some (.cells #[.int .i64 x453000_2, .int .i64 x453001_2] 38 (0, 0))) ∧ zC (w'.heap[gb454]? = some (.cells #[.int .i64 x455000_2, .int .i64 x455001_2] 38 (0, 0))) ∧ zC (Below w.heap.size w w'))
      case atStart => exact ⟨(x453000_1), (x453001_1), ((rd_T38 l0 x11_1).f0), ((rd_T38 l0 x11_1).f1), H', ⟨Nat.le_refl _⟩, ⟨by (with_reducible repeat (first | refine zD ?_ _ | refine zG ?_ | refine zE ?_ _)); refine zV ?_ NB451_454.out _; (with_reducible repeat (first | refine zD ?_ _ | refine zG ?_ | refine zE ?_ _)); refine zV ?_ NB451_454.out _; (with_reducible repeat (first | refine zD ?_ _ | refine zG ?_ | refine zE ?_ _)); exact BK451.out⟩, ⟨by (with_reducible repeat (first | refine zD ?_ _ | refine zG ?_ | refine zE ?_ _)); refine zV ?_ NB452_454.out _; (with_reducible repeat (first | refine zD ?_ _ | refine zG ?_ | refine zE ?_ _)); refine zV ?_ NB452_454.out _; (with_reducible repeat (first | refine zD ?_ _ | refine zG ?_ | refine zE ?_ _)); exact BK452.out⟩, ⟨by (with_reducible repeat (first | refine zD ?_ _ | refine zG ?_ | refine zE ?_ _)); refine zS (cs := #[.int .i64 ((rd_T38 l0 x11_1).f0), .int .i64 0]) ?_ 1 _ rfl; (with_reducible repeat (first | refine zD ?_ _ | refine zG ?_ | refine zE ?_ _)); refine zS (cs := #[.int .i64 0, .int .i64 0]) ?_ 0 _ rfl; (with_reducible repeat (first | refine zD ?_ _ | refine zG ?_ | refine zE ?_ _)); exact BK454.out⟩, ⟨by repeat (first | (with_reducible first | exact HB.out | apply zI | apply zB | apply zF | refine zH ?_ GE451.out | refine zH ?_ GE452.out | refine zH ?_ GE454.out) | exact HB.out)⟩⟩
      case round =>
       clear H'
       try clear c1
       try clear p2
       try clear c4
       try clear p4
       try clear q4
       try clear hx4
       try clear c6
       try clear c6b0
       try clear c7
       try clear c7b0
       try clear c8
       try clear c8b0
       try clear c10
       try clear c11
       try clear hcz12_0
       try clear hcz12_1
       try clear hcz5_0
       try clear hcz5_1
       try clear hfz12_0
       try clear hfz12_1
       try clear hfz5_0
       try clear hfz5_1
       try clear hx453_0
       try clear hx453_1
       try clear p2
       try clear p453
       try clear q453
       obtain ⟨x453000_2, x453001_2, x455000_2, x455001_2, HA, HK2, BK451, BK452, BK454, HB⟩ := hrel
       cases gk with
       | zero => exact absurd HA.out (by simp [impl_latticeOf.l1])
       | succ k2 =>
        have H := HA.out
        clear HA
        simp only [impl_latticeOf.l1] at H
        by_cases c13 : x455001_2 = 0
        ·
         rw [if_pos c13] at H
         have c13b0 : (x455001_2 == 0) = true := beq_iff_eq.mpr c13
         have c13b1 : (x455001_2 != 0) = false := bne_eq_false_iff_eq.mpr c13
         clear c13
         replace H := Option.bind_eq_some_iff.mp H
         obtain ⟨t455, A140, H⟩ := H
         replace H : (impl_latticeOf.l0 k2 t455 l0 (l0.length : Int) (wrap64 (x11_1 + 1)) x453000_2 x453001_2) = some (r1, r2, r3) := H
         have A14 := zC.mk A140
         clear A140
         have H' := zC.mk H
         clear H
         have hnb15 := NB454_451.out
         have hnc15 := NB451_454.out
         have hnb16 := NB454_452.out
         have hnc16 := NB452_454.out
         have hcz17_0 : wr.cell? ⟨gb454, 0, none⟩ = some (.int .i64 x455000_2) := (zA BK454.out 0).trans rfl
         have hcz17_1 : wr.cell? ⟨gb454, 1, none⟩ = some (.int .i64 x455001_2) := (zA BK454.out 1).trans rfl
         have hfz17_0 := zJ BK454.out 0
         have hfz17_1 := zJ BK454.out 1
         go_wp2_with (first | ((with_reducible refine zR (f := 166) rfl ?_); refine zZ (some 33) rfl rfl Try.func166 (by kernel_rfl) rfl #[.int .i64 x3_1, .int .i64 x455000_2] rfl (by (try simp only [List.map_toArray, List.map_cons, List.map_nil]); first | done | rfl | (simp only [List.length_drop, List.length_take]; rfl)) ?_; (with_reducible refine (impl_gcd.calls k2 x3_1 x455000_2 t455 _ A14.out).mono ?_); rintro e w18 ⟨rfl, hb⟩; refine ⟨_, rfl, ?_⟩; have n0_ := zC.mk (zK (g := gb451) (o := .cells #[.int .i64 0, .int .i64 0, .int .i64 0] 28 (0, 0)) (by (with_reducible repeat (first | refine zD ?_ _ | refine zG ?_ | refine zE ?_ _)); exact BK451.out) hb); have n1_ := zC.mk (zK (g := gb452) (o := .cells #[.int .i64 x453000_2, .int .i64 x453001_2] 38 (0, 0)) (by (with_reducible repeat (first | refine zD ?_ _ | refine zG ?_ | refine zE ?_ _)); exact BK452.out) hb); have n2_ := zC.mk (zK (g := gb454) (o := .cells #[.int .i64 x455000_2, .int .i64 x455001_2] 38 (0, 0)) (by (with_reducible repeat (first | refine zD ?_ _ | refine zG ?_ | refine zE ?_ _)); exact BK454.out) hb); have n3_ := zC.mk (zL (by repeat (first | (with_reducible first | exact HB.out | apply zI | apply zB | apply zF | refine zH ?_ GE451.out | refine zH ?_ GE452.out | refine zH ?_ GE454.out) | exact HB.out)) hb); clear BK451; clear BK452; clear BK454; clear HB; have BK451 := n0_; have BK452 := n1_; have BK454 := n2_; have HB := n3_; clear n0_ n1_ n2_ n3_; (try clear hb); (try clear hb2); (try clear hk); (try clear hi)))
         go_roundg k2
         case measure => have := HK1.out; have := HK2.out; omega
         case rel => exact ⟨(t455), (wrap64 (x11_1 + 1)), (x453000_2), (x453001_2), (by first | rfl | (simp; done) | (simp [*]; done)), (by first | rfl | (simp; done) | (simp [*]; done)), H', ⟨by have := HK1.out; have := HK2.out; omega⟩, ⟨by (with_reducible repeat (first | refine zD ?_ _ | refine zG ?_ | refine zE ?_ _)); exact BK451.out⟩, ⟨by (with_reducible repeat (first | refine zD ?_ _ | refine zG ?_ | refine zE ?_ _)); exact BK452.out⟩, ⟨by repeat (first | (with_reducible first | exact HB.out | apply zI | apply zB | apply zF | refine zH ?_ GE451.out | refine zH ?_ GE452.out | refine zH ?_ GE454.out) | exact HB.out)⟩⟩
        ·
         rw [if_neg c13] at H
         have c13b0 : (x455001_2 == 0) = false := beq_eq_false_iff_ne.mpr c13
         have c13b1 : (x455001_2 != 0) = true := bne_iff_ne.mpr c13
         replace H := Option.bind_eq_some_iff.mp H
         obtain ⟨⟨t456, t457⟩, A190, H⟩ := H
         replace H : ((impl_Vec_add.f x453000_2 x453001_2 t456 t457).bind fun bt458 => (impl_latticeOf.l1 k2 x3_1 l0 (l0.length : Int) x11_1 x455000_2 x455001_2 bt458.1 bt458.2)) = some (r1, r2, r3) := H
         have A19 := zC.mk A190
         clear A190
         replace H := Option.bind_eq_some_iff.mp H
         obtain ⟨⟨t458, t459⟩, A200, H⟩ := H
         replace H : (impl_latticeOf.l1 k2 x3_1 l0 (l0.length : Int) x11_1 x455000_2 x455001_2 t458 t459) = some (r1, r2, r3) := H
         have A20 := zC.mk A200
         clear A200
         have H' := zC.mk H
         clear H
         have hnb21 := NB454_451.out
         have hnc21 := NB451_454.out
         have hnb22 := NB454_452.out
         have hnc22 := NB452_454.out
         have hcz23_0 : wr.cell? ⟨gb454, 0, none⟩ = some (.int .i64 x455000_2) := (zA BK454.out 0).trans rfl
         have hcz23_1 : wr.cell? ⟨gb454, 1, none⟩ = some (.int .i64 x455001_2) := (zA BK454.out 1).trans rfl
         have hfz23_0 := zJ BK454.out 0
         have hfz23_1 := zJ BK454.out 1
         have hnb24 := NB452_451.out
         have hnc24 := NB451_452.out
         have hcz25_0 : wr.cell? ⟨gb452, 0, none⟩ = some (.int .i64 x453000_2) := (zA BK452.out 0).trans rfl
         have hcz25_1 : wr.cell? ⟨gb452, 1, none⟩ = some (.int .i64 x453001_2) := (zA BK452.out 1).trans rfl
         have hfz25_0 := zJ BK452.out 0
         have hfz25_1 := zJ BK452.out 1
         try go_wp2
         have n0_ := zC.mk (zG BK451.out)
         have n1_ := zC.mk (zG BK452.out)
         have n2_ := zC.mk (zG BK454.out)
         have n3_ := zC.mk (zF HB.out)
         clear BK451
         clear BK452
         clear BK454
         clear HB
         have BK451 := n0_
         have BK452 := n1_
         have BK454 := n2_
         have HB := n3_
         clear n0_ n1_ n2_ n3_
         refine start_ (n := 9) (S := fun w' => w'.cell? ⟨gb454, 0, none⟩ = some (.int .i64 x455000_2) ∧ w'.cell? ⟨gb454, 1, none⟩ = some (.int .i64 x455001_2) ∧ w'.cell? ⟨gb452, 0, none⟩ = some (.int .i64 x453000_2) ∧ w'.cell? ⟨gb452, 1, none⟩ = some (.int .i64 x453001_2)) (ds := [7, 8]) #[false, false, false, false, false, false, false, false, false] (by kernel_rfl) rfl rfl ⟨(zA BK454.out 0).trans rfl, (zA BK454.out 1).trans rfl, (zA BK452.out 0).trans rfl, (zA BK452.out 1).trans rfl⟩ (fun hHeld => ?_); refine yE impl_latticeOf.tab7 impl_latticeOf.bits7 (fun HT_ HW_ => ?_)
         generalize wr.drew = w26 at BK451 BK452 BK454 HB hHeld ⊢
         refine zW (i := 3) (N := some 26) (v := ?_) (a' := ?_) #[false, false, false, true, false, false, false, false, false] rfl rfl (zT HT_.out (by kernel_rfl)) (fun _ _ _ h => h) (Or.inl ⟨by rfl, ?_⟩) ?_ ?_
         rotate_left
         ·
          intro w'
          go_simp
          with_reducible rfl
         rotate_left
         ·
          simp only [Act.put, List.setIfInBounds_toArray, List.set_cons_zero, List.set_cons_succ, zP, zO]
          rfl
         refine zW (i := 4) (N := some 27) (v := ?_) (a' := ?_) #[false, false, false, true, true, false, false, false, false] rfl rfl (zT HT_.out (by kernel_rfl)) (fun _ _ _ h => h) (Or.inl ⟨by rfl, ?_⟩) ?_ ?_
         rotate_left
         ·
          intro w'
          go_simp
          with_reducible rfl
         rotate_left
         ·
          simp only [Act.put, List.setIfInBounds_toArray, List.set_cons_zero, List.set_cons_succ, zP, zO]
          rfl
         refine yC (i := 0) (N := some 23) (v := ?_) (a' := ?_) #[true, false, false, true, true, false, false, false, false] rfl rfl (zY HT_.out HW_.out (by kernel_rfl)) (fun _ _ _ h => h) (Or.inl ⟨by rfl, ?_⟩) hHeld ?_ ?_
         rotate_left
         ·
          rintro w' ⟨s0, s1, s2, s3⟩
          go_simp
          with_reducible rfl
         rotate_left
         ·
          simp only [Act.put, List.setIfInBounds_toArray, List.set_cons_zero, List.set_cons_succ, zP, zO]
          rfl
         refine yC (i := 1) (N := some 24) (v := ?_) (a' := ?_) #[true, true, false, true, true, false, false, false, false] rfl rfl (zY HT_.out HW_.out (by kernel_rfl)) (fun _ _ _ h => h) (Or.inl ⟨by rfl, ?_⟩) hHeld ?_ ?_
         rotate_left
         ·
          rintro w' ⟨s0, s1, s2, s3⟩
          go_simp
          with_reducible rfl
         rotate_left
         ·
          simp only [Act.put, List.setIfInBounds_toArray, List.set_cons_zero, List.set_cons_succ, zP, zO]
          rfl
         refine yC (i := 2) (N := some 25) (v := ?_) (a' := ?_) #[true, true, true, true, true, false, false, false, false] rfl rfl (zY HT_.out HW_.out (by kernel_rfl)) (fun _ _ _ h => h) (Or.inl ⟨by rfl, ?_⟩) hHeld ?_ ?_
         rotate_left
         ·
          rintro w' ⟨s0, s1, s2, s3⟩
          go_simp
          with_reducible rfl
         rotate_left
         ·
          simp only [Act.put, List.setIfInBounds_toArray, List.set_cons_zero, List.set_cons_succ, zP, zO]
          rfl
         refine one_ (i := 5) (N := some 28) #[true, true, true, true, true, true, false, false, false] rfl rfl (yA HT_.out (by kernel_rfl)) (by decide) (fun K hK => ?_)
         refine yD Try.func165 (by kernel_rfl) rfl #[.agg #[.int .i64 x455000_2, .int .i64 x455001_2], .int .i64 (wrap64 (-(wrap64 (Int.tdiv x453001_2 x455001_2))))] (by rfl) rfl rfl (by (try simp only [List.map_toArray, List.map_cons, List.map_nil]); first | done | rfl | (simp only [List.length_drop, List.length_take]; rfl)) ?_
         with_reducible refine (impl_Vec_times.calls x455000_2 x455001_2 (wrap64 (-(wrap64 (Int.tdiv x453001_2 x455001_2)))) t456 t457 _ A19.out).mono ?_
         rintro e w27 ⟨rfl, hb⟩
         refine ⟨_, rfl, ?_⟩
         have n0_ := zC.mk (zK (g := gb451) (o := .cells #[.int .i64 0, .int .i64 0, .int .i64 0] 28 (0, 0)) (by (with_reducible repeat (first | refine zD ?_ _ | refine zG ?_ | refine zE ?_ _)); exact BK451.out) hb)
         have n1_ := zC.mk (zK (g := gb452) (o := .cells #[.int .i64 x453000_2, .int .i64 x453001_2] 38 (0, 0)) (by (with_reducible repeat (first | refine zD ?_ _ | refine zG ?_ | refine zE ?_ _)); exact BK452.out) hb)
         have n2_ := zC.mk (zK (g := gb454) (o := .cells #[.int .i64 x455000_2, .int .i64 x455001_2] 38 (0, 0)) (by (with_reducible repeat (first | refine zD ?_ _ | refine zG ?_ | refine zE ?_ _)); exact BK454.out) hb)
         have n3_ := zC.mk (zL (by repeat (first | (with_reducible first | exact HB.out | apply zI | apply zB | apply zF | refine zH ?_ GE451.out | refine zH ?_ GE452.out | refine zH ?_ GE454.out) | exact HB.out)) hb)
         clear BK451
         clear BK452
         clear BK454
         clear HB
         have BK451 := n0_
         have BK452 := n1_
         have BK454 := n2_
         have HB := n3_
         clear n0_ n1_ n2_ n3_
         (try clear hb)
         (try clear hb2)
         (try clear hk)
         (try clear hi)
         refine hK.out _ _ ⟨(zA BK454.out 0).trans rfl, (zA BK454.out 1).trans rfl, (zA BK452.out 0).trans rfl, (zA BK452.out 1).trans rfl⟩ (fun hHeld => ?_)
         clear hK K
         refine yB (a' := ?_) ?_ ?_
         rotate_left
         ·
          show Act.put _ (some 28) _ = _
          simp only [Act.put, List.setIfInBounds_toArray, List.set_cons_zero, List.set_cons_succ, zP, zO]
          rfl
         refine one_ (i := 6) (N := some 29) #[true, true, true, true, true, true, true, false, false] rfl rfl (yA HT_.out (by kernel_rfl)) (by decide) (fun K hK => ?_)
         refine yD Try.func122 (by kernel_rfl) rfl #[.agg #[.int .i64 x453000_2, .int .i64 x453001_2], .agg #[.int .i64 t456, .int .i64 t457]] (by rfl) rfl rfl (by (try simp only [List.map_toArray, List.map_cons, List.map_nil]); first | done | rfl | (simp only [List.length_drop, List.length_take]; rfl)) ?_
         with_reducible refine (impl_Vec_add.calls x453000_2 x453001_2 t456 t457 t458 t459 _ A20.out).mono ?_
         rintro e w28 ⟨rfl, hb⟩
         refine ⟨_, rfl, ?_⟩
         have n0_ := zC.mk (zK (g := gb451) (o := .cells #[.int .i64 0, .int .i64 0, .int .i64 0] 28 (0, 0)) (by (with_reducible repeat (first | refine zD ?_ _ | refine zG ?_ | refine zE ?_ _)); exact BK451.out) hb)
         have n1_ := zC.mk (zK (g := gb452) (o := .cells #[.int .i64 x453000_2, .int .i64 x453001_2] 38 (0, 0)) (by (with_reducible repeat (first | refine zD ?_ _ | refine zG ?_ | refine zE ?_ _)); exact BK452.out) hb)
         have n2_ := zC.mk (zK (g := gb454) (o := .cells #[.int .i64 x455000_2, .int .i64 x455001_2] 38 (0, 0)) (by (with_reducible repeat (first | refine zD ?_ _ | refine zG ?_ | refine zE ?_ _)); exact BK454.out) hb)
         have n3_ := zC.mk (zL (by repeat (first | (with_reducible first | exact HB.out | apply zI | apply zB | apply zF | refine zH ?_ GE451.out | refine zH ?_ GE452.out | refine zH ?_ GE454.out) | exact HB.out)) hb)
         clear BK451
         clear BK452
         clear BK454
         clear HB
         have BK451 := n0_
         have BK452 := n1_
         have BK454 := n2_
         have HB := n3_
         clear n0_ n1_ n2_ n3_
         (try clear hb)
         (try clear hb2)
         (try clear hk)
         (try clear hi)
         refine hK.out _ _ ⟨(zA BK454.out 0).trans rfl, (zA BK454.out 1).trans rfl, (zA BK452.out 0).trans rfl, (zA BK452.out 1).trans rfl⟩ (fun hHeld => ?_)
         clear hK K
         refine yB (a' := ?_) ?_ ?_
         rotate_left
         ·
          show Act.put _ (some 29) _ = _
          simp only [Act.put, List.setIfInBounds_toArray, List.set_cons_zero, List.set_cons_succ, zP, zO]
          rfl
         refine last_ (i := 7) (N := none) #[true, true, true, true, true, true, true, true, false] rfl rfl (yA HT_.out (by kernel_rfl)) (by decide) (fun K hK => ?_)
         have hs29 : w28.cell? ⟨gb452, 0, none⟩ = some (.int .i64 x453000_2) := (zA BK452.out 0).trans rfl
         have hfs29 := zJ BK452.out 0
         have hns29_0 := NB451_452.out
         have hns29_2 := NB454_452.out
         have hms29_0 := NB452_451.out
         have hms29_2 := NB452_454.out
         have hs30 : w28.cell? ⟨gb452, 1, none⟩ = some (.int .i64 x453001_2) := (zA BK452.out 1).trans rfl
         have hfs30 := zJ BK452.out 1
         have hns30_0 := NB451_452.out
         have hns30_2 := NB454_452.out
         have hms30_0 := NB452_451.out
         have hms30_2 := NB452_454.out
         refine skip_ (w1 := ?_) (by rfl) rfl ?_ ?_
         rotate_left
         ·
          go_simp
          rfl
         refine hK.out _ _ ?_
         clear hK K
         refine last_ (i := 8) (N := none) #[true, true, true, true, true, true, true, true, true] rfl rfl (yA HT_.out (by kernel_rfl)) (by decide) (fun K hK => ?_)
         have hs31 : w28.cell? ⟨gb454, 0, none⟩ = some (.int .i64 x455000_2) := (zA BK454.out 0).trans rfl
         have hfs31 := zJ BK454.out 0
         have hns31_0 := NB451_454.out
         have hns31_1 := NB452_454.out
         have hms31_0 := NB454_451.out
         have hms31_1 := NB454_452.out
         have hs32 : w28.cell? ⟨gb454, 1, none⟩ = some (.int .i64 x455001_2) := (zA BK454.out 1).trans rfl
         have hfs32 := zJ BK454.out 1
         have hns32_0 := NB451_454.out
         have hns32_1 := NB452_454.out
         have hms32_0 := NB454_451.out
         have hms32_1 := NB454_452.out
         refine skip_ (w1 := ?_) (by rfl) rfl ?_ ?_
         rotate_left
         ·
          go_simp
          rfl
         refine hK.out _ _ ?_
         clear hK K
         refine done_ (done_of HT_.out (by kernel_rfl)) ?_
         try go_wp2
         go_roundg k2
         case measure => have := HK1.out; have := HK2.out; omega
         case rel => exact ⟨(x455000_2), (x455001_2), (t458), (t459), H', ⟨by have := HK1.out; have := HK2.out; omega⟩, ⟨by (with_reducible repeat (first | refine zD ?_ _ | refine zG ?_ | refine zE ?_ _)); refine zV ?_ NB451_454.out _; (with_reducible repeat (first | refine zD ?_ _ | refine zG ?_ | refine zE ?_ _)); refine zV ?_ NB451_454.out _; (with_reducible repeat (first | refine zD ?_ _ | refine zG ?_ | refine zE ?_ _)); refine zV ?_ NB451_452.out _; (with_reducible repeat (first | refine zD ?_ _ | refine zG ?_ | refine zE ?_ _)); refine zV ?_ NB451_452.out _; (with_reducible repeat (first | refine zD ?_ _ | refine zG ?_ | refine zE ?_ _)); exact BK451.out⟩, ⟨by (with_reducible repeat (first | refine zD ?_ _ | refine zG ?_ | refine zE ?_ _)); refine zV ?_ NB452_454.out _; (with_reducible repeat (first | refine zD ?_ _ | refine zG ?_ | refine zE ?_ _)); refine zV ?_ NB452_454.out _; (with_reducible repeat (first | refine zD ?_ _ | refine zG ?_ | refine zE ?_ _)); refine zS (cs := #[.int .i64 x455000_2, .int .i64 x453001_2]) ?_ 1 _ rfl; (with_reducible repeat (first | refine zD ?_ _ | refine zG ?_ | refine zE ?_ _)); refine zS (cs := #[.int .i64 x453000_2, .int .i64 x453001_2]) ?_ 0 _ rfl; (with_reducible repeat (first | refine zD ?_ _ | refine zG ?_ | refine zE ?_ _)); exact BK452.out⟩, ⟨by (with_reducible repeat (first | refine zD ?_ _ | refine zG ?_ | refine zE ?_ _)); refine zS (cs := #[.int .i64 t458, .int .i64 x455001_2]) ?_ 1 _ rfl; (with_reducible repeat (first | refine zD ?_ _ | refine zG ?_ | refine zE ?_ _)); refine zS (cs := #[.int .i64 x455000_2, .int .i64 x455001_2]) ?_ 0 _ rfl; (with_reducible repeat (first | refine zD ?_ _ | refine zG ?_ | refine zE ?_ _)); refine zV ?_ NB454_452.out _; (with_reducible repeat (first | refine zD ?_ _ | refine zG ?_ | refine zE ?_ _)); refine zV ?_ NB454_452.out _; (with_reducible repeat (first | refine zD ?_ _ | refine zG ?_ | refine zE ?_ _)); exact BK454.out⟩, ⟨by repeat (first | (with_reducible first | exact HB.out | apply zI | apply zB | apply zF | refine zH ?_ GE451.out | refine zH ?_ GE452.out | refine zH ?_ GE454.out) | exact HB.out)⟩⟩
     ·
      rw [if_neg c8] at H
      exact absurd H (by simp)
    ·
     rw [if_neg c7] at H
     exact absurd H (by simp)
   ·
    rw [if_neg c6] at H
    have c6b0 : decide (x11_1 < (l0.length : Int)) = false := decide_eq_false c6
    clear c6
    by_cases c33 : x453001_1 < 0
    ·
     rw [if_pos c33] at H
     have c33b0 : decide (x453001_1 < 0) = true := decide_eq_true c33
     clear c33
     replace H := Option.bind_eq_some_iff.mp H
     obtain ⟨⟨t460, t461⟩, A340, H⟩ := H
     replace H : ((impl_mod.f t460 x3_1).bind fun t462 => (some (x3_1, t462, t461))) = some (r1, r2, r3) := H
     have A34 := zC.mk A340
     clear A340
     replace H := Option.bind_eq_some_iff.mp H
     obtain ⟨t462, A350, H⟩ := H
     replace H : (some (x3_1, t462, t461)) = some (r1, r2, r3) := H
     have A35 := zC.mk A350
     clear A350
     simp only [Option.some.injEq, Prod.mk.injEq] at H
     obtain ⟨rfl, rfl, rfl⟩ := H
     have hnb36 := NB452_451.out
     have hnc36 := NB451_452.out
     have hcz37_0 : wr.cell? ⟨gb452, 0, none⟩ = some (.int .i64 x453000_1) := (zA BK452.out 0).trans rfl
     have hcz37_1 : wr.cell? ⟨gb452, 1, none⟩ = some (.int .i64 x453001_1) := (zA BK452.out 1).trans rfl
     have hfz37_0 := zJ BK452.out 0
     have hfz37_1 := zJ BK452.out 1
     try go_wp2_with (first | ((with_reducible refine zR (f := 165) rfl ?_); refine zZ (some 39) rfl rfl Try.func165 (by kernel_rfl) rfl #[.agg #[.int .i64 x453000_1, .int .i64 x453001_1], .int .i64 (-1)] rfl (by (try simp only [List.map_toArray, List.map_cons, List.map_nil]); first | done | rfl | (simp only [List.length_drop, List.length_take]; rfl)) ?_; (with_reducible refine (impl_Vec_times.calls x453000_1 x453001_1 (-1) t460 t461 _ A34.out).mono ?_); rintro e w38 ⟨rfl, hb⟩; refine ⟨_, rfl, ?_⟩; have n0_ := zC.mk (zK (g := gb451) (o := .cells #[.int .i64 0, .int .i64 0, .int .i64 0] 28 (0, 0)) (by (with_reducible repeat (first | refine zD ?_ _ | refine zG ?_ | refine zE ?_ _)); exact BK451.out) hb); have n1_ := zC.mk (zK (g := gb452) (o := .cells #[.int .i64 x453000_1, .int .i64 x453001_1] 38 (0, 0)) (by (with_reducible repeat (first | refine zD ?_ _ | refine zG ?_ | refine zE ?_ _)); exact BK452.out) hb); have n2_ := zC.mk (zL (by repeat (first | (with_reducible first | exact HB.out | apply zI | apply zB | apply zF | refine zH ?_ GE451.out | refine zH ?_ GE452.out) | exact HB.out)) hb); clear BK451; clear BK452; clear HB; have BK451 := n0_; have BK452 := n1_; have HB := n2_; clear n0_ n1_ n2_; (try clear hb); (try clear hb2); (try clear hk); (try clear hi); have hcz39_0 : w38.cell? ⟨gb452, 0, none⟩ = some (.int .i64 x453000_1) := (zA BK452.out 0).trans rfl; have hcz39_1 : w38.cell? ⟨gb452, 1, none⟩ = some (.int .i64 x453001_1) := (zA BK452.out 1).trans rfl; have hfz39_0 := zJ BK452.out 0; have hfz39_1 := zJ BK452.out 1))
     have n0_ : zC (((w38.setCell ⟨gb452, 0, none⟩ (.int .i64 t460)).setCell ⟨gb452, 1, none⟩ (.int .i64 t461)).heap[gb451]? = some (.cells #[.int .i64 0, .int .i64 0, .int .i64 0] 28 (0, 0))) := ⟨by (with_reducible repeat (first | refine zD ?_ _ | refine zG ?_ | refine zE ?_ _)); refine zV ?_ NB451_452.out _; (with_reducible repeat (first | refine zD ?_ _ | refine zG ?_ | refine zE ?_ _)); refine zV ?_ NB451_452.out _; (with_reducible repeat (first | refine zD ?_ _ | refine zG ?_ | refine zE ?_ _)); exact BK451.out⟩
     have n1_ : zC (((w38.setCell ⟨gb452, 0, none⟩ (.int .i64 t460)).setCell ⟨gb452, 1, none⟩ (.int .i64 t461)).heap[gb452]? = some (.cells #[.int .i64 t460, .int .i64 t461] 38 (0, 0))) := ⟨by (with_reducible repeat (first | refine zD ?_ _ | refine zG ?_ | refine zE ?_ _)); refine zS (cs := #[.int .i64 t460, .int .i64 x453001_1]) ?_ 1 _ rfl; (with_reducible repeat (first | refine zD ?_ _ | refine zG ?_ | refine zE ?_ _)); refine zS (cs := #[.int .i64 x453000_1, .int .i64 x453001_1]) ?_ 0 _ rfl; (with_reducible repeat (first | refine zD ?_ _ | refine zG ?_ | refine zE ?_ _)); exact BK452.out⟩
     have n2_ : zC (Below w.heap.size w ((w38.setCell ⟨gb452, 0, none⟩ (.int .i64 t460)).setCell ⟨gb452, 1, none⟩ (.int .i64 t461))) := ⟨by repeat (first | (with_reducible first | exact HB.out | apply zI | apply zB | apply zF | refine zH ?_ GE451.out | refine zH ?_ GE452.out) | exact HB.out)⟩
     (try clear BK451)
     (try clear BK452)
     (try clear HB)
     generalize ((w38.setCell ⟨gb452, 0, none⟩ (.int .i64 t460)).setCell ⟨gb452, 1, none⟩ (.int .i64 t461)) = w40 at n0_ n1_ n2_ ⊢
     have BK451 := n0_
     have BK452 := n1_
     have HB := n2_
     clear n0_ n1_ n2_
     have n0_ := zC.mk (zG BK451.out)
     have n1_ := zC.mk (zG BK452.out)
     have n2_ := zC.mk (zF HB.out)
     clear BK451
     clear BK452
     clear HB
     have BK451 := n0_
     have BK452 := n1_
     have HB := n2_
     clear n0_ n1_ n2_
     refine start_ (n := 9) (S := fun w' => w'.cell? ⟨gb452, 0, none⟩ = some (.int .i64 t460) ∧ w'.cell? ⟨gb452, 1, none⟩ = some (.int .i64 t461)) (ds := []) #[false, false, false, false, false, false, false, false, false] (by kernel_rfl) rfl rfl ⟨(zA BK452.out 0).trans rfl, (zA BK452.out 1).trans rfl⟩ (fun hHeld => ?_); refine yE impl_latticeOf.tab12 impl_latticeOf.bits12 (fun HT_ HW_ => ?_)
     generalize w40.drew = w41 at BK451 BK452 HB hHeld ⊢
     refine zW (i := 0) (N := some 40) (v := ?_) (a' := ?_) #[true, false, false, false, false, false, false, false, false] rfl rfl (zT HT_.out (by kernel_rfl)) (fun _ _ _ h => h) (Or.inl ⟨by rfl, ?_⟩) ?_ ?_
     rotate_left
     ·
      intro w'
      go_simp
      with_reducible rfl
     rotate_left
     ·
      simp only [Act.put, List.setIfInBounds_toArray, List.set_cons_zero, List.set_cons_succ, zP, zO]
      rfl
     refine zW (i := 1) (N := some 41) (v := ?_) (a' := ?_) #[true, true, false, false, false, false, false, false, false] rfl rfl (zT HT_.out (by kernel_rfl)) (fun _ _ _ h => h) (Or.inl ⟨by rfl, ?_⟩) ?_ ?_
     rotate_left
     ·
      intro w'
      go_simp
      with_reducible rfl
     rotate_left
     ·
      simp only [Act.put, List.setIfInBounds_toArray, List.set_cons_zero, List.set_cons_succ, zP, zO]
      rfl
     refine zW (i := 3) (N := some 43) (v := ?_) (a' := ?_) #[true, true, false, true, false, false, false, false, false] rfl rfl (zT HT_.out (by kernel_rfl)) (fun _ _ _ h => h) (Or.inl ⟨by rfl, ?_⟩) ?_ ?_
     rotate_left
     ·
      intro w'
      go_simp
      with_reducible rfl
     rotate_left
     ·
      simp only [Act.put, List.setIfInBounds_toArray, List.set_cons_zero, List.set_cons_succ, zP, zO]
      rfl
     refine zW (i := 5) (N := some 45) (v := ?_) (a' := ?_) #[true, true, false, true, false, true, false, false, false] rfl rfl (zT HT_.out (by kernel_rfl)) (fun _ _ _ h => h) (Or.inl ⟨by rfl, ?_⟩) ?_ ?_
     rotate_left
     ·
      intro w'
      go_simp
      with_reducible rfl
     rotate_left
     ·
      simp only [Act.put, List.setIfInBounds_toArray, List.set_cons_zero, List.set_cons_succ, zP, zO]
      rfl
     refine yC (i := 2) (N := some 42) (v := ?_) (a' := ?_) #[true, true, true, true, false, true, false, false, false] rfl rfl (zY HT_.out HW_.out (by kernel_rfl)) (fun _ _ _ h => h) (Or.inl ⟨by rfl, ?_⟩) hHeld ?_ ?_
     rotate_left
     ·
      rintro w' ⟨s0, s1⟩
      go_simp
      with_reducible rfl
     rotate_left
     ·
      simp only [Act.put, List.setIfInBounds_toArray, List.set_cons_zero, List.set_cons_succ, zP, zO]
      rfl
     refine yC (i := 6) (N := some 46) (v := ?_) (a' := ?_) #[true, true, true, true, false, true, true, false, false] rfl rfl (zY HT_.out HW_.out (by kernel_rfl)) (fun _ _ _ h => h) (Or.inl ⟨by rfl, ?_⟩) hHeld ?_ ?_
     rotate_left
     ·
      rintro w' ⟨s0, s1⟩
      go_simp
      with_reducible rfl
     rotate_left
     ·
      simp only [Act.put, List.setIfInBounds_toArray, List.set_cons_zero, List.set_cons_succ, zP, zO]
      rfl
     refine one_ (i := 4) (N := some 44) #[true, true, true, true, true, true, true, false, false] rfl rfl (yA HT_.out (by kernel_rfl)) (by decide) (fun K hK => ?_)
     refine yD Try.func157 (by kernel_rfl) rfl #[.int .i64 t460, .int .i64 x3_1] (by rfl) rfl rfl (by (try simp only [List.map_toArray, List.map_cons, List.map_nil]); first | done | rfl | (simp only [List.length_drop, List.length_take]; rfl)) ?_
     with_reducible refine (impl_mod.calls t460 x3_1 t462 _ A35.out).mono ?_
     rintro e w' ⟨rfl, ⟨nd, rfl⟩⟩
     refine ⟨_, rfl, ?_⟩
     refine hK.out _ _ ⟨(zA BK452.out 0).trans rfl, (zA BK452.out 1).trans rfl⟩ (fun hHeld => ?_)
     clear hK K
     refine yB (a' := ?_) ?_ ?_
     rotate_left
     ·
      show Act.put _ (some 44) _ = _
      simp only [Act.put, List.setIfInBounds_toArray, List.set_cons_zero, List.set_cons_succ, zP, zO]
      rfl
     refine zW (i := 7) (N := some 47) (v := ?_) (a' := ?_) #[true, true, true, true, true, true, true, true, false] rfl rfl (zT HT_.out (by kernel_rfl)) (fun _ _ _ h => h) (Or.inl ⟨by rfl, ?_⟩) ?_ ?_
     rotate_left
     ·
      intro w'
      go_simp
      with_reducible rfl
     rotate_left
     ·
      simp only [Act.put, List.setIfInBounds_toArray, List.set_cons_zero, List.set_cons_succ, zP, zO]
      rfl
     refine one_ (i := 8) (N := none) #[true, true, true, true, true, true, true, true, true] rfl rfl (yA HT_.out (by kernel_rfl)) (by decide) (fun K hK => ?_)
     have hs42 : w41.cell? ⟨gb451, 0, none⟩ = some (.int .i64 0) := (zA BK451.out 0).trans rfl
     have hfs42 := zJ BK451.out 0
     have hns42_1 := NB452_451.out
     have hms42_1 := NB451_452.out
     have hs43 : w41.cell? ⟨gb451, 1, none⟩ = some (.int .i64 0) := (zA BK451.out 1).trans rfl
     have hfs43 := zJ BK451.out 1
     have hns43_1 := NB452_451.out
     have hms43_1 := NB451_452.out
     have hs44 : w41.cell? ⟨gb451, 2, none⟩ = some (.int .i64 0) := (zA BK451.out 2).trans rfl
     have hfs44 := zJ BK451.out 2
     have hns44_1 := NB452_451.out
     have hms44_1 := NB451_452.out
     refine skip_ (w1 := ?_) (by rfl) rfl ?_ ?_
     rotate_left
     ·
      go_simp
      rfl
     refine hK.out _ _ ⟨((zU (p := ⟨gb451, _, none⟩) NB452_451.out _).trans (((zU (p := ⟨gb451, _, none⟩) NB452_451.out _).trans (((zU (p := ⟨gb451, _, none⟩) NB452_451.out _).trans (hHeld.1)))))), ((zU (p := ⟨gb451, _, none⟩) NB452_451.out _).trans (((zU (p := ⟨gb451, _, none⟩) NB452_451.out _).trans (((zU (p := ⟨gb451, _, none⟩) NB452_451.out _).trans (hHeld.2))))))⟩ (fun hHeld => ?_)
     clear hK K
     refine done_ (done_of HT_.out (by kernel_rfl)) ?_
     try go_wp2
     refine bodyPost_ret (results_cell_row rfl _ _ gb451 28 #[.int .i64 x3_1, .int .i64 t462, .int .i64 t461] (0, 0) _ rfl (by (with_reducible repeat (first | refine zD ?_ _ | refine zG ?_ | refine zE ?_ _)); refine zS (cs := #[.int .i64 x3_1, .int .i64 t462, .int .i64 0]) ?_ 2 _ rfl; (with_reducible repeat (first | refine zD ?_ _ | refine zG ?_ | refine zE ?_ _)); refine zS (cs := #[.int .i64 x3_1, .int .i64 0, .int .i64 0]) ?_ 1 _ rfl; (with_reducible repeat (first | refine zD ?_ _ | refine zG ?_ | refine zE ?_ _)); refine zS (cs := #[.int .i64 0, .int .i64 0, .int .i64 0]) ?_ 0 _ rfl; (with_reducible repeat (first | refine zD ?_ _ | refine zG ?_ | refine zE ?_ _)); exact BK451.out) Try.underlying28 rfl (by kernel_rfl)) rfl ?_
     exact ⟨by first | rfl | (simp [errW_none, errW_some] <;> rfl) | (simp [*, errW_none, errW_some] <;> rfl), by repeat (first | (with_reducible first | exact HB.out | apply zI | apply zB | apply zF | refine zH ?_ GE451.out | refine zH ?_ GE452.out) | exact HB.out)⟩
    ·
     rw [if_neg c33] at H
     have c33b0 : decide (x453001_1 < 0) = false := decide_eq_false c33
     clear c33
     replace H := Option.bind_eq_some_iff.mp H
     obtain ⟨t463, A450, H⟩ := H
     replace H : (some (x3_1, t463, x453001_1)) = some (r1, r2, r3) := H
     have A45 := zC.mk A450
     clear A450
     simp only [Option.some.injEq, Prod.mk.injEq] at H
     obtain ⟨rfl, rfl, rfl⟩ := H
     have hnb46 := NB452_451.out
     have hnc46 := NB451_452.out
     have hcz47_0 : wr.cell? ⟨gb452, 0, none⟩ = some (.int .i64 x453000_1) := (zA BK452.out 0).trans rfl
     have hcz47_1 : wr.cell? ⟨gb452, 1, none⟩ = some (.int .i64 x453001_1) := (zA BK452.out 1).trans rfl
     have hfz47_0 := zJ BK452.out 0
     have hfz47_1 := zJ BK452.out 1
     try go_wp2
     have n0_ := zC.mk (zG BK451.out)
     have n1_ := zC.mk (zG BK452.out)
     have n2_ := zC.mk (zF HB.out)
     clear BK451
     clear BK452
     clear HB
     have BK451 := n0_
     have BK452 := n1_
     have HB := n2_
     clear n0_ n1_ n2_
     refine start_ (n := 9) (S := fun w' => w'.cell? ⟨gb452, 0, none⟩ = some (.int .i64 x453000_1) ∧ w'.cell? ⟨gb452, 1, none⟩ = some (.int .i64 x453001_1)) (ds := []) #[false, false, false, false, false, false, false, false, false] (by kernel_rfl) rfl rfl ⟨(zA BK452.out 0).trans rfl, (zA BK452.out 1).trans rfl⟩ (fun hHeld => ?_); refine yE impl_latticeOf.tab12 impl_latticeOf.bits12 (fun HT_ HW_ => ?_)
     generalize wr.drew = w48 at BK451 BK452 HB hHeld ⊢
     refine zW (i := 0) (N := some 40) (v := ?_) (a' := ?_) #[true, false, false, false, false, false, false, false, false] rfl rfl (zT HT_.out (by kernel_rfl)) (fun _ _ _ h => h) (Or.inl ⟨by rfl, ?_⟩) ?_ ?_
     rotate_left
     ·
      intro w'
      go_simp
      with_reducible rfl
     rotate_left
     ·
      simp only [Act.put, List.setIfInBounds_toArray, List.set_cons_zero, List.set_cons_succ, zP, zO]
      rfl
     refine zW (i := 1) (N := some 41) (v := ?_) (a' := ?_) #[true, true, false, false, false, false, false, false, false] rfl rfl (zT HT_.out (by kernel_rfl)) (fun _ _ _ h => h) (Or.inl ⟨by rfl, ?_⟩) ?_ ?_
     rotate_left
     ·
      intro w'
      go_simp
      with_reducible rfl
     rotate_left
     ·
      simp only [Act.put, List.setIfInBounds_toArray, List.set_cons_zero, List.set_cons_succ, zP, zO]
      rfl
     refine zW (i := 3) (N := some 43) (v := ?_) (a' := ?_) #[true, true, false, true, false, false, false, false, false] rfl rfl (zT HT_.out (by kernel_rfl)) (fun _ _ _ h => h) (Or.inl ⟨by rfl, ?_⟩) ?_ ?_
     rotate_left
     ·
      intro w'
      go_simp
      with_reducible rfl
     rotate_left
     ·
      simp only [Act.put, List.setIfInBounds_toArray, List.set_cons_zero, List.set_cons_succ, zP, zO]
      rfl
     refine zW (i := 5) (N := some 45) (v := ?_) (a' := ?_) #[true, true, false, true, false, true, false, false, false] rfl rfl (zT HT_.out (by kernel_rfl)) (fun _ _ _ h => h) (Or.inl ⟨by rfl, ?_⟩) ?_ ?_
     rotate_left
     ·
      intro w'
      go_simp
      with_reducible rfl
     rotate_left
     ·
      simp only [Act.put, List.setIfInBounds_toArray, List.set_cons_zero, List.set_cons_succ, zP, zO]
      rfl
     refine yC (i := 2) (N := some 42) (v := ?_) (a' := ?_) #[true, true, true, true, false, true, false, false, false] rfl rfl (zY HT_.out HW_.out (by kernel_rfl)) (fun _ _ _ h => h) (Or.inl ⟨by rfl, ?_⟩) hHeld ?_ ?_
     rotate_left
     ·
      rintro w' ⟨s0, s1⟩
      go_simp
      with_reducible rfl
     rotate_left
     ·
      simp only [Act.put, List.setIfInBounds_toArray, List.set_cons_zero, List.set_cons_succ, zP, zO]
      rfl
     refine yC (i := 6) (N := some 46) (v := ?_) (a' := ?_) #[true, true, true, true, false, true, true, false, false] rfl rfl (zY HT_.out HW_.out (by kernel_rfl)) (fun _ _ _ h => h) (Or.inl ⟨by rfl, ?_⟩) hHeld ?_ ?_
     rotate_left
     ·
      rintro w' ⟨s0, s1⟩
      go_simp
      with_reducible rfl
     rotate_left
     ·
      simp only [Act.put, List.setIfInBounds_toArray, List.set_cons_zero, List.set_cons_succ, zP, zO]
      rfl
     refine one_ (i := 4) (N := some 44) #[true, true, true, true, true, true, true, false, false] rfl rfl (yA HT_.out (by kernel_rfl)) (by decide) (fun K hK => ?_)
     refine yD Try.func157 (by kernel_rfl) rfl #[.int .i64 x453000_1, .int .i64 x3_1] (by rfl) rfl rfl (by (try simp only [List.map_toArray, List.map_cons, List.map_nil]); first | done | rfl | (simp only [List.length_drop, List.length_take]; rfl)) ?_
     with_reducible refine (impl_mod.calls x453000_1 x3_1 t463 _ A45.out).mono ?_
     rintro e w' ⟨rfl, ⟨nd, rfl⟩⟩
     refine ⟨_, rfl, ?_⟩
     refine hK.out _ _ ⟨(zA BK452.out 0).trans rfl, (zA BK452.out 1).trans rfl⟩ (fun hHeld => ?_)
     clear hK K
     refine yB (a' := ?_) ?_ ?_
     rotate_left
     ·
      show Act.put _ (some 44) _ = _
      simp only [Act.put, List.setIfInBounds_toArray, List.set_cons_zero, List.set_cons_succ, zP, zO]
      rfl
     refine zW (i := 7) (N := some 47) (v := ?_) (a' := ?_) #[true, true, true, true, true, true, true, true, false] rfl rfl (zT HT_.out (by kernel_rfl)) (fun _ _ _ h => h) (Or.inl ⟨by rfl, ?_⟩) ?_ ?_
     rotate_left
     ·
      intro w'
      go_simp
      with_reducible rfl
     rotate_left
     ·
      simp only [Act.put, List.setIfInBounds_toArray, List.set_cons_zero, List.set_cons_succ, zP, zO]
      rfl
     refine one_ (i := 8) (N := none) #[true, true, true, true, true, true, true, true, true] rfl rfl (yA HT_.out (by kernel_rfl)) (by decide) (fun K hK => ?_)
     have hs49 : w48.cell? ⟨gb451, 0, none⟩ = some (.int .i64 0) := (zA BK451.out 0).trans rfl
     have hfs49 := zJ BK451.out 0
     have hns49_1 := NB452_451.out
     have hms49_1 := NB451_452.out
     have hs50 : w48.cell? ⟨gb451, 1, none⟩ = some (.int .i64 0) := (zA BK451.out 1).trans rfl
     have hfs50 := zJ BK451.out 1
     have hns50_1 := NB452_451.out
     have hms50_1 := NB451_452.out
     have hs51 : w48.cell? ⟨gb451, 2, none⟩ = some (.int .i64 0) := (zA BK451.out 2).trans rfl
     have hfs51 := zJ BK451.out 2
     have hns51_1 := NB452_451.out
     have hms51_1 := NB451_452.out
     refine skip_ (w1 := ?_) (by rfl) rfl ?_ ?_
     rotate_left
     ·
      go_simp
      rfl
     refine hK.out _ _ ⟨((zU (p := ⟨gb451, _, none⟩) NB452_451.out _).trans (((zU (p := ⟨gb451, _, none⟩) NB452_451.out _).trans (((zU (p := ⟨gb451, _, none⟩) NB452_451.out _).trans (hHeld.1)))))), ((zU (p := ⟨gb451, _, none⟩) NB452_451.out _).trans (((zU (p := ⟨gb451, _, none⟩) NB452_451.out _).trans (((zU (p := ⟨gb451, _, none⟩) NB452_451.out _).trans (hHeld.2))))))⟩ (fun hHeld => ?_)
     clear hK K
     refine done_ (done_of HT_.out (by kernel_rfl)) ?_
     try go_wp2
     refine bodyPost_ret (results_cell_row rfl _ _ gb451 28 #[.int .i64 x3_1, .int .i64 t463, .int .i64 x453001_1] (0, 0) _ rfl (by (with_reducible repeat (first | refine zD ?_ _ | refine zG ?_ | refine zE ?_ _)); refine zS (cs := #[.int .i64 x3_1, .int .i64 t463, .int .i64 0]) ?_ 2 _ rfl; (with_reducible repeat (first | refine zD ?_ _ | refine zG ?_ | refine zE ?_ _)); refine zS (cs := #[.int .i64 x3_1, .int .i64 0, .int .i64 0]) ?_ 1 _ rfl; (with_reducible repeat (first | refine zD ?_ _ | refine zG ?_ | refine zE ?_ _)); refine zS (cs := #[.int .i64 0, .int .i64 0, .int .i64 0]) ?_ 0 _ rfl; (with_reducible repeat (first | refine zD ?_ _ | refine zG ?_ | refine zE ?_ _)); exact BK451.out) Try.underlying28 rfl (by kernel_rfl)) rfl ?_
     exact ⟨by first | rfl | (simp [errW_none, errW_some] <;> rfl) | (simp [*, errW_none, errW_some] <;> rfl), by repeat (first | (with_reducible first | exact HB.out | apply zI | apply zB | apply zF | refine zH ?_ GE451.out | refine zH ?_ GE452.out) | exact HB.out)⟩


/-! ### impl_Lattice_number: function 123 -/
set_option maxHeartbeats 8000000 in
set_option maxRecDepth 100000 in
theorem impl_Lattice_number.calls (a0_0 : Int) (a0_1 : Int) (a0_2 : Int) (a1_0 : Int) (a1_1 : Int) (r : Int) (w : World) (h : impl_Lattice_number.f a0_0 a0_1 a0_2 a1_0 a1_1 = some r) :
  Calls Try.prog 123 #[.agg #[.int .i64 a0_0, .int .i64 a0_1, .int .i64 a0_2], .agg #[.int .i64 a1_0, .int .i64 a1_1]] w fun e w' => e = .returned (.int .i64 r) ∧ Below w.heap.size w w' := by
 have hu28 := Try.underlying28
 have hu38 := Try.underlying38
 have HB := zC.mk (Below.refl w.heap.size w)
 have H : (some (wrap64 ((wrap64 (a1_0 * a0_2)) + a1_1))) = some r := h
 clear h
 obtain rfl := Option.some.inj H
 go_enter Try.func123, Try.ntmps123
 go_wp2_with (first | ((with_reducible refine zQ (N := 2) rfl ?_); refine zN ?hg (N := 2) ?hd (cs := #[.int .i64 a0_0, .int .i64 a0_1, .int .i64 a0_2]) (t := 28) ?hr ?_; (case hd => rfl); (case hg => rfl); (case hr => first | (go_simp; done) | (go_simp; rfl)); intro gb232 hg w3 hbox hb; have n0_ := zC.mk (zL (by repeat (first | (with_reducible first | exact HB.out | apply zI | apply zB | apply zF) | exact HB.out)) hb); have n1_ := zC.mk (hbox); have n2_ := zC.mk ((by rw [hg]; exact (zM (by repeat (first | (with_reducible first | exact HB.out | apply zI | apply zB | apply zF) | exact HB.out))) : w.heap.size ≤ gb232)); have n3_ := n2_; clear HB; have HB := n0_; have BK232 := n1_; have GW232 := n2_; have GE232 := n3_; clear n0_ n1_ n2_ n3_; clear hb hbox hg) | ((with_reducible refine zQ (N := 3) rfl ?_); refine zN ?hg (N := 3) ?hd (cs := #[.int .i64 a1_0, .int .i64 a1_1]) (t := 38) ?hr ?_; (case hd => rfl); (case hg => rfl); (case hr => first | (go_simp; done) | (go_simp; rfl)); intro gb233 hg w4 hbox hb; have n0_ := zC.mk (zK (g := gb232) (o := .cells #[.int .i64 a0_0, .int .i64 a0_1, .int .i64 a0_2] 28 (0, 0)) (by (with_reducible repeat (first | refine zD ?_ _ | refine zG ?_ | refine zE ?_ _)); exact BK232.out) hb); have n1_ := zC.mk (zL (by repeat (first | (with_reducible first | exact HB.out | apply zI | apply zB | apply zF | refine zH ?_ GE232.out) | exact HB.out)) hb); have n2_ := zC.mk (hbox); have n3_ := zC.mk ((by rw [hg]; exact (zM (by repeat (first | (with_reducible first | exact HB.out | apply zI | apply zB | apply zF | refine zH ?_ GE232.out) | exact HB.out))) : w.heap.size ≤ gb233)); have n4_ := n3_; have n5_ := zC.mk ((by rw [hg]; exact Nat.ne_of_lt (zX (by (with_reducible repeat (first | refine zD ?_ _ | refine zG ?_ | refine zE ?_ _)); exact BK232.out)) : gb232 ≠ gb233)); have n6_ := zC.mk n5_.out.symm; clear BK232; clear HB; have BK232 := n0_; have HB := n1_; have BK233 := n2_; have GW233 := n3_; have GE233 := n4_; have NB232_233 := n5_; have NB233_232 := n6_; clear n0_ n1_ n2_ n3_ n4_ n5_ n6_; clear hb hbox hg; have hnb5 := NB233_232.out; have hnc5 := NB232_233.out; have hcz6_0 : w4.cell? ⟨gb233, 0, none⟩ = some (.int .i64 a1_0) := (zA BK233.out 0).trans rfl; have hcz6_1 : w4.cell? ⟨gb233, 1, none⟩ = some (.int .i64 a1_1) := (zA BK233.out 1).trans rfl; have hfz6_0 := zJ BK233.out 0; have hfz6_1 := zJ BK233.out 1; have hcz7_0 : w4.cell? ⟨gb232, 0, none⟩ = some (.int .i64 a0_0) := (zA BK232.out 0).trans rfl; have hcz7_1 : w4.cell? ⟨gb232, 1, none⟩ = some (.int .i64 a0_1) := (zA BK232.out 1).trans rfl; have hcz7_2 : w4.cell? ⟨gb232, 2, none⟩ = some (.int .i64 a0_2) := (zA BK232.out 2).trans rfl; have hfz7_0 := zJ BK232.out 0; have hfz7_1 := zJ BK232.out 1; have hfz7_2 := zJ BK232.out 2))
 go_ret
 exact ⟨by first | rfl | (simp [errW_none, errW_some] <;> rfl) | (simp [*, errW_none, errW_some] <;> rfl), by repeat (first | (with_reducible first | exact HB.out | apply zI | apply zB | apply zF | refine zH ?_ GE232.out | refine zH ?_ GE233.out) | exact HB.out)⟩


/-! ### impl_Lattice_reduce: function 124 -/
def impl_Lattice_reduce.T2 : Bool × List (List Nat × List Nat) := (true, [([], []), ([0], [0]), ([], []), ([2], [2]), ([], []), ([3, 4], [3, 4]), ([], []), ([6], [6]), ([5, 7], [5, 7]), ([], []), ([9], [9]), ([8, 10], [8, 10]), ([1, 11], [1, 11]), ([], []), ([13], [13]), ([12, 14], [12, 14]), ([], []), ([15, 16], [15, 16]), ([17, 15, 0, 1, 2, 3, 4, 5, 6, 7, 8, 9, 10, 11, 12, 13, 14, 15, 16, 17], [17])])
def impl_Lattice_reduce.B2 : List Nat := [0, 1, 0, 4, 0, 28, 0, 64, 252, 0, 512, 2044, 4095, 0, 8192, 32767, 0, 131071, 262143]
theorem impl_Lattice_reduce.tab2 : rtab .any (opsOf Try.f124 2) = impl_Lattice_reduce.T2 := by kernel_rfl
theorem impl_Lattice_reduce.bits2 : waitsOk impl_Lattice_reduce.T2.2 impl_Lattice_reduce.B2 = true := by kernel_rfl
set_option maxHeartbeats 8000000 in
set_option maxRecDepth 100000 in
theorem impl_Lattice_reduce.calls (a0_0 : Int) (a0_1 : Int) (a0_2 : Int) (a1_0 : Int) (a1_1 : Int) (r1 : Int) (r2 : Int) (w : World) (h : impl_Lattice_reduce.f a0_0 a0_1 a0_2 a1_0 a1_1 = some (r1, r2)) :
  Calls Try.prog 124 #[.agg #[.int .i64 a0_0, .int .i64 a0_1, .int .i64 a0_2], .agg #[.int .i64 a1_0, .int .i64 a1_1]] w fun e w' => e = .returned (.agg #[.int .i64 r1, .int .i64 r2]) ∧ Below w.heap.size w w' := by
 have hu28 := Try.underlying28
 have hu38 := Try.underlying38
 have HB := zC.mk (Below.refl w.heap.size w)
 have H : ((impl_mod.f a1_1 a0_2).bind fun t237 => (if a0_2 = 0 then (none) else ((impl_mod.f (wrap64 (a1_0 - (wrap64 ((wrap64 (Int.tdiv (wrap64 (a1_1 - t237)) a0_2)) * a0_1)))) a0_0).bind fun t238 => (some (t238, t237))))) = some (r1, r2) := h
 clear h
 replace H := Option.bind_eq_some_iff.mp H
 obtain ⟨t237, A30, H⟩ := H
 replace H : (if a0_2 = 0 then (none) else ((impl_mod.f (wrap64 (a1_0 - (wrap64 ((wrap64 (Int.tdiv (wrap64 (a1_1 - t237)) a0_2)) * a0_1)))) a0_0).bind fun t238 => (some (t238, t237)))) = some (r1, r2) := H
 have A3 := zC.mk A30
 clear A30
 by_cases c4 : a0_2 = 0
 ·
  rw [if_pos c4] at H
  exact absurd H (by simp)
 ·
  rw [if_neg c4] at H
  have c4b0 : (a0_2 == 0) = false := beq_eq_false_iff_ne.mpr c4
  have c4b1 : (a0_2 != 0) = true := bne_iff_ne.mpr c4
  replace H := Option.bind_eq_some_iff.mp H
  obtain ⟨t238, A50, H⟩ := H
  replace H : (some (t238, t237)) = some (r1, r2) := H
  have A5 := zC.mk A50
  clear A50
  simp only [Option.some.injEq, Prod.mk.injEq] at H
  obtain ⟨rfl, rfl⟩ := H
  go_enter Try.func124, Try.ntmps124
  try go_wp2_with (first | ((with_reducible refine zQ (N := 2) rfl ?_); refine zN ?hg (N := 2) ?hd (cs := #[.int .i64 a0_0, .int .i64 a0_1, .int .i64 a0_2]) (t := 28) ?hr ?_; (case hd => rfl); (case hg => rfl); (case hr => first | (go_simp; done) | (go_simp; rfl)); intro gb234 hg w6 hbox hb; have n0_ := zC.mk (zL (by repeat (first | (with_reducible first | exact HB.out | apply zI | apply zB | apply zF) | exact HB.out)) hb); have n1_ := zC.mk (hbox); have n2_ := zC.mk ((by rw [hg]; exact (zM (by repeat (first | (with_reducible first | exact HB.out | apply zI | apply zB | apply zF) | exact HB.out))) : w.heap.size ≤ gb234)); have n3_ := n2_; clear HB; have HB := n0_; have BK234 := n1_; have GW234 := n2_; have GE234 := n3_; clear n0_ n1_ n2_ n3_; clear hb hbox hg) | ((with_reducible refine zQ (N := 3) rfl ?_); refine zN ?hg (N := 3) ?hd (cs := #[.int .i64 a1_0, .int .i64 a1_1]) (t := 38) ?hr ?_; (case hd => rfl); (case hg => rfl); (case hr => first | (go_simp; done) | (go_simp; rfl)); intro gb235 hg w7 hbox hb; have n0_ := zC.mk (zK (g := gb234) (o := .cells #[.int .i64 a0_0, .int .i64 a0_1, .int .i64 a0_2] 28 (0, 0)) (by (with_reducible repeat (first | refine zD ?_ _ | refine zG ?_ | refine zE ?_ _)); exact BK234.out) hb); have n1_ := zC.mk (zL (by repeat (first | (with_reducible first | exact HB.out | apply zI | apply zB | apply zF | refine zH ?_ GE234.out) | exact HB.out)) hb); have n2_ := zC.mk (hbox); have n3_ := zC.mk ((by rw [hg]; exact (zM (by repeat (first | (with_reducible first | exact HB.out | apply zI | apply zB | apply zF | refine zH ?_ GE234.out) | exact HB.out))) : w.heap.size ≤ gb235)); have n4_ := n3_; have n5_ := zC.mk ((by rw [hg]; exact Nat.ne_of_lt (zX (by (with_reducible repeat (first | refine zD ?_ _ | refine zG ?_ | refine zE ?_ _)); exact BK234.out)) : gb234 ≠ gb235)); have n6_ := zC.mk n5_.out.symm; clear BK234; clear HB; have BK234 := n0_; have HB := n1_; have BK235 := n2_; have GW235 := n3_; have GE235 := n4_; have NB234_235 := n5_; have NB235_234 := n6_; clear n0_ n1_ n2_ n3_ n4_ n5_ n6_; clear hb hbox hg) | ((with_reducible refine zQ (N := 4) rfl ?_); refine zN ?hg (N := 4) ?hd (cs := #[.int .i64 0, .int .i64 0]) (t := 38) ?hr ?_; (case hd => rfl); (case hg => rfl); (case hr => first | (go_simp; done) | (go_simp; rfl)); intro gb236 hg w8 hbox hb; have n0_ := zC.mk (zK (g := gb234) (o := .cells #[.int .i64 a0_0, .int .i64 a0_1, .int .i64 a0_2] 28 (0, 0)) (by (with_reducible repeat (first | refine zD ?_ _ | refine zG ?_ | refine zE ?_ _)); exact BK234.out) hb); have n1_ := zC.mk (zK (g := gb235) (o := .cells #[.int .i64 a1_0, .int .i64 a1_1] 38 (0, 0)) (by (with_reducible repeat (first | refine zD ?_ _ | refine zG ?_ | refine zE ?_ _)); exact BK235.out) hb); have n2_ := zC.mk (zL (by repeat (first | (with_reducible first | exact HB.out | apply zI | apply zB | apply zF | refine zH ?_ GE234.out | refine zH ?_ GE235.out) | exact HB.out)) hb); have n3_ := zC.mk (hbox); have n4_ := zC.mk ((by rw [hg]; exact (zM (by repeat (first | (with_reducible first | exact HB.out | apply zI | apply zB | apply zF | refine zH ?_ GE234.out | refine zH ?_ GE235.out) | exact HB.out))) : w.heap.size ≤ gb236)); have n5_ := n4_; have n6_ := zC.mk ((by rw [hg]; exact Nat.ne_of_lt (zX (by (with_reducible repeat (first | refine zD ?_ _ | refine zG ?_ | refine zE ?_ _)); exact BK234.out)) : gb234 ≠ gb236)); have n7_ := zC.mk n6_.out.symm; have n8_ := zC.mk ((by rw [hg]; exact Nat.ne_of_lt (zX (by (with_reducible repeat (first | refine zD ?_ _ | refine zG ?_ | refine zE ?_ _)); exact BK235.out)) : gb235 ≠ gb236)); have n9_ := zC.mk n8_.out.symm; clear BK234; clear BK235; clear HB; have BK234 := n0_; have BK235 := n1_; have HB := n2_; have BK236 := n3_; have GW236 := n4_; have GE236 := n5_; have NB234_236 := n6_; have NB236_234 := n7_; have NB235_236 := n8_; have NB236_235 := n9_; clear n0_ n1_ n2_ n3_ n4_ n5_ n6_ n7_ n8_ n9_; clear hb hbox hg; have hnb9 := NB235_234.out; have hnc9 := NB234_235.out; have hnb10 := NB235_236.out; have hnc10 := NB236_235.out; have hcz11_0 : w8.cell? ⟨gb235, 0, none⟩ = some (.int .i64 a1_0) := (zA BK235.out 0).trans rfl; have hcz11_1 : w8.cell? ⟨gb235, 1, none⟩ = some (.int .i64 a1_1) := (zA BK235.out 1).trans rfl; have hfz11_0 := zJ BK235.out 0; have hfz11_1 := zJ BK235.out 1; have hnb12 := NB234_236.out; have hnc12 := NB236_234.out; have hcz13_0 : w8.cell? ⟨gb234, 0, none⟩ = some (.int .i64 a0_0) := (zA BK234.out 0).trans rfl; have hcz13_1 : w8.cell? ⟨gb234, 1, none⟩ = some (.int .i64 a0_1) := (zA BK234.out 1).trans rfl; have hcz13_2 : w8.cell? ⟨gb234, 2, none⟩ = some (.int .i64 a0_2) := (zA BK234.out 2).trans rfl; have hfz13_0 := zJ BK234.out 0; have hfz13_1 := zJ BK234.out 1; have hfz13_2 := zJ BK234.out 2) | ((with_reducible refine zR (f := 157) rfl ?_); refine zZ (some 10) rfl rfl Try.func157 (by kernel_rfl) rfl #[.int .i64 a1_1, .int .i64 a0_2] rfl (by (try simp only [List.map_toArray, List.map_cons, List.map_nil]); first | done | rfl | (simp only [List.length_drop, List.length_take]; rfl)) ?_; (with_reducible refine (impl_mod.calls a1_1 a0_2 t237 _ A3.out).mono ?_); rintro e w' ⟨rfl, ⟨nd, rfl⟩⟩; refine ⟨_, rfl, ?_⟩; (try (rw [drewN_self w8]; generalize hq_ : World.drewN w8 _ = w8; have n0_ : zC (w8.heap[gb234]? = some (.cells #[.int .i64 a0_0, .int .i64 a0_1, .int .i64 a0_2] 28 (0, 0))) := ⟨by rw [← hq_]; exact (by (with_reducible repeat (first | refine zD ?_ _ | refine zG ?_ | refine zE ?_ _)); exact BK234.out)⟩; have n1_ : zC (w8.heap[gb235]? = some (.cells #[.int .i64 a1_0, .int .i64 a1_1] 38 (0, 0))) := ⟨by rw [← hq_]; exact (by (with_reducible repeat (first | refine zD ?_ _ | refine zG ?_ | refine zE ?_ _)); exact BK235.out)⟩; have n2_ : zC (w8.heap[gb236]? = some (.cells #[.int .i64 0, .int .i64 0] 38 (0, 0))) := ⟨by rw [← hq_]; exact (by (with_reducible repeat (first | refine zD ?_ _ | refine zG ?_ | refine zE ?_ _)); exact BK236.out)⟩; have n3_ : zC (Below w.heap.size w w8) := ⟨by rw [← hq_]; exact (by repeat (first | (with_reducible first | exact HB.out | apply zI | apply zB | apply zF | refine zH ?_ GE234.out | refine zH ?_ GE235.out | refine zH ?_ GE236.out) | exact HB.out))⟩; clear BK234 BK235 BK236 HB hq_; have BK234 := n0_; have BK235 := n1_; have BK236 := n2_; have HB := n3_; clear n0_ n1_ n2_ n3_))))
  have n0_ := zC.mk (zG BK234.out)
  have n1_ := zC.mk (zG BK235.out)
  have n2_ := zC.mk (zG BK236.out)
  have n3_ := zC.mk (zF HB.out)
  clear BK234
  clear BK235
  clear BK236
  clear HB
  have BK234 := n0_
  have BK235 := n1_
  have BK236 := n2_
  have HB := n3_
  clear n0_ n1_ n2_ n3_
  refine start_ (n := 19) (S := fun w' => w'.cell? ⟨gb235, 0, none⟩ = some (.int .i64 a1_0) ∧ w'.cell? ⟨gb235, 1, none⟩ = some (.int .i64 a1_1) ∧ w'.cell? ⟨gb234, 0, none⟩ = some (.int .i64 a0_0) ∧ w'.cell? ⟨gb234, 1, none⟩ = some (.int .i64 a0_1) ∧ w'.cell? ⟨gb234, 2, none⟩ = some (.int .i64 a0_2)) (ds := []) #[false, false, false, false, false, false, false, false, false, false, false, false, false, false, false, false, false, false, false] (by kernel_rfl) rfl rfl ⟨(zA BK235.out 0).trans rfl, (zA BK235.out 1).trans rfl, (zA BK234.out 0).trans rfl, (zA BK234.out 1).trans rfl, (zA BK234.out 2).trans rfl⟩ (fun hHeld => ?_); refine yE impl_Lattice_reduce.tab2 impl_Lattice_reduce.bits2 (fun HT_ HW_ => ?_)
  generalize w8.drew = w14 at BK234 BK235 BK236 HB hHeld ⊢
  refine zW (i := 0) (N := some 11) (v := ?_) (a' := ?_) #[true, false, false, false, false, false, false, false, false, false, false, false, false, false, false, false, false, false, false] rfl rfl (zT HT_.out (by kernel_rfl)) (fun _ _ _ h => h) (Or.inl ⟨by rfl, ?_⟩) ?_ ?_
  rotate_left
  ·
   intro w'
   go_simp
   with_reducible rfl
  rotate_left
  ·
   simp only [Act.put, List.setIfInBounds_toArray, List.set_cons_zero, List.set_cons_succ, zP, zO]
   rfl
  refine zW (i := 2) (N := some 13) (v := ?_) (a' := ?_) #[true, false, true, false, false, false, false, false, false, false, false, false, false, false, false, false, false, false, false] rfl rfl (zT HT_.out (by kernel_rfl)) (fun _ _ _ h => h) (Or.inl ⟨by rfl, ?_⟩) ?_ ?_
  rotate_left
  ·
   intro w'
   go_simp
   with_reducible rfl
  rotate_left
  ·
   simp only [Act.put, List.setIfInBounds_toArray, List.set_cons_zero, List.set_cons_succ, zP, zO]
   rfl
  refine zW (i := 4) (N := some 15) (v := ?_) (a' := ?_) #[true, false, true, false, true, false, false, false, false, false, false, false, false, false, false, false, false, false, false] rfl rfl (zT HT_.out (by kernel_rfl)) (fun _ _ _ h => h) (Or.inl ⟨by rfl, ?_⟩) ?_ ?_
  rotate_left
  ·
   intro w'
   go_simp
   with_reducible rfl
  rotate_left
  ·
   simp only [Act.put, List.setIfInBounds_toArray, List.set_cons_zero, List.set_cons_succ, zP, zO]
   rfl
  refine zW (i := 6) (N := some 17) (v := ?_) (a' := ?_) #[true, false, true, false, true, false, true, false, false, false, false, false, false, false, false, false, false, false, false] rfl rfl (zT HT_.out (by kernel_rfl)) (fun _ _ _ h => h) (Or.inl ⟨by rfl, ?_⟩) ?_ ?_
  rotate_left
  ·
   intro w'
   go_simp
   with_reducible rfl
  rotate_left
  ·
   simp only [Act.put, List.setIfInBounds_toArray, List.set_cons_zero, List.set_cons_succ, zP, zO]
   rfl
  refine zW (i := 9) (N := some 20) (v := ?_) (a' := ?_) #[true, false, true, false, true, false, true, false, false, true, false, false, false, false, false, false, false, false, false] rfl rfl (zT HT_.out (by kernel_rfl)) (fun _ _ _ h => h) (Or.inl ⟨by rfl, ?_⟩) ?_ ?_
  rotate_left
  ·
   intro w'
   go_simp
   with_reducible rfl
  rotate_left
  ·
   simp only [Act.put, List.setIfInBounds_toArray, List.set_cons_zero, List.set_cons_succ, zP, zO]
   rfl
  refine zW (i := 13) (N := some 24) (v := ?_) (a' := ?_) #[true, false, true, false, true, false, true, false, false, true, false, false, false, true, false, false, false, false, false] rfl rfl (zT HT_.out (by kernel_rfl)) (fun _ _ _ h => h) (Or.inl ⟨by rfl, ?_⟩) ?_ ?_
  rotate_left
  ·
   intro w'
   go_simp
   with_reducible rfl
  rotate_left
  ·
   simp only [Act.put, List.setIfInBounds_toArray, List.set_cons_zero, List.set_cons_succ, zP, zO]
   rfl
  refine zW (i := 16) (N := some 27) (v := ?_) (a' := ?_) #[true, false, true, false, true, false, true, false, false, true, false, false, false, true, false, false, true, false, false] rfl rfl (zT HT_.out (by kernel_rfl)) (fun _ _ _ h => h) (Or.inl ⟨by rfl, ?_⟩) ?_ ?_
  rotate_left
  ·
   intro w'
   go_simp
   with_reducible rfl
  rotate_left
  ·
   simp only [Act.put, List.setIfInBounds_toArray, List.set_cons_zero, List.set_cons_succ, zP, zO]
   rfl
  refine yC (i := 1) (N := some 12) (v := ?_) (a' := ?_) #[true, true, true, false, true, false, true, false, false, true, false, false, false, true, false, false, true, false, false] rfl rfl (zY HT_.out HW_.out (by kernel_rfl)) (fun _ _ _ h => h) (Or.inl ⟨by rfl, ?_⟩) hHeld ?_ ?_
  rotate_left
  ·
   rintro w' ⟨s0, s1, s2, s3, s4⟩
   go_simp
   with_reducible rfl
  rotate_left
  ·
   simp only [Act.put, List.setIfInBounds_toArray, List.set_cons_zero, List.set_cons_succ, zP, zO]
   rfl
  refine yC (i := 3) (N := some 14) (v := ?_) (a' := ?_) #[true, true, true, true, true, false, true, false, false, true, false, false, false, true, false, false, true, false, false] rfl rfl (zY HT_.out HW_.out (by kernel_rfl)) (fun _ _ _ h => h) (Or.inl ⟨by rfl, ?_⟩) hHeld ?_ ?_
  rotate_left
  ·
   rintro w' ⟨s0, s1, s2, s3, s4⟩
   go_simp
   with_reducible rfl
  rotate_left
  ·
   simp only [Act.put, List.setIfInBounds_toArray, List.set_cons_zero, List.set_cons_succ, zP, zO]
   rfl
  refine zW (i := 5) (N := some 16) (v := ?_) (a' := ?_) #[true, true, true, true, true, true, true, false, false, true, false, false, false, true, false, false, true, false, false] rfl rfl (zT HT_.out (by kernel_rfl)) (fun _ _ _ h => h) (Or.inl ⟨by rfl, ?_⟩) ?_ ?_
  rotate_left
  ·
   intro w'
   go_simp
   with_reducible rfl
  rotate_left
  ·
   simp only [Act.put, List.setIfInBounds_toArray, List.set_cons_zero, List.set_cons_succ, zP, zO]
   rfl
  refine yC (i := 7) (N := some 18) (v := ?_) (a' := ?_) #[true, true, true, true, true, true, true, true, false, true, false, false, false, true, false, false, true, false, false] rfl rfl (zY HT_.out HW_.out (by kernel_rfl)) (fun _ _ _ h => h) (Or.inl ⟨by rfl, ?_⟩) hHeld ?_ ?_
  rotate_left
  ·
   rintro w' ⟨s0, s1, s2, s3, s4⟩
   go_simp
   with_reducible rfl
  rotate_left
  ·
   simp only [Act.put, List.setIfInBounds_toArray, List.set_cons_zero, List.set_cons_succ, zP, zO]
   rfl
  refine zW (i := 8) (N := some 19) (v := ?_) (a' := ?_) #[true, true, true, true, true, true, true, true, true, true, false, false, false, true, false, false, true, false, false] rfl rfl (zT HT_.out (by kernel_rfl)) (fun _ _ _ h => h) (Or.inl ⟨by rfl, ?_⟩) ?_ ?_
  rotate_left
  ·
   intro w'
   go_simp
   with_reducible rfl
  rotate_left
  ·
   simp only [Act.put, List.setIfInBounds_toArray, List.set_cons_zero, List.set_cons_succ, zP, zO]
   rfl
  refine yC (i := 10) (N := some 21) (v := ?_) (a' := ?_) #[true, true, true, true, true, true, true, true, true, true, true, false, false, true, false, false, true, false, false] rfl rfl (zY HT_.out HW_.out (by kernel_rfl)) (fun _ _ _ h => h) (Or.inl ⟨by rfl, ?_⟩) hHeld ?_ ?_
  rotate_left
  ·
   rintro w' ⟨s0, s1, s2, s3, s4⟩
   go_simp
   with_reducible rfl
  rotate_left
  ·
   simp only [Act.put, List.setIfInBounds_toArray, List.set_cons_zero, List.set_cons_succ, zP, zO]
   rfl
  refine zW (i := 11) (N := some 22) (v := ?_) (a' := ?_) #[true, true, true, true, true, true, true, true, true, true, true, true, false, true, false, false, true, false, false] rfl rfl (zT HT_.out (by kernel_rfl)) (fun _ _ _ h => h) (Or.inl ⟨by rfl, ?_⟩) ?_ ?_
  rotate_left
  ·
   intro w'
   go_simp
   with_reducible rfl
  rotate_left
  ·
   simp only [Act.put, List.setIfInBounds_toArray, List.set_cons_zero, List.set_cons_succ, zP, zO]
   rfl
  refine zW (i := 12) (N := some 23) (v := ?_) (a' := ?_) #[true, true, true, true, true, true, true, true, true, true, true, true, true, true, false, false, true, false, false] rfl rfl (zT HT_.out (by kernel_rfl)) (fun _ _ _ h => h) (Or.inl ⟨by rfl, ?_⟩) ?_ ?_
  rotate_left
  ·
   intro w'
   go_simp
   with_reducible rfl
  rotate_left
  ·
   simp only [Act.put, List.setIfInBounds_toArray, List.set_cons_zero, List.set_cons_succ, zP, zO]
   rfl
  refine yC (i := 14) (N := some 25) (v := ?_) (a' := ?_) #[true, true, true, true, true, true, true, true, true, true, true, true, true, true, true, false, true, false, false] rfl rfl (zY HT_.out HW_.out (by kernel_rfl)) (fun _ _ _ h => h) (Or.inl ⟨by rfl, ?_⟩) hHeld ?_ ?_
  rotate_left
  ·
   rintro w' ⟨s0, s1, s2, s3, s4⟩
   go_simp
   with_reducible rfl
  rotate_left
  ·
   simp only [Act.put, List.setIfInBounds_toArray, List.set_cons_zero, List.set_cons_succ, zP, zO]
   rfl
  refine one_ (i := 15) (N := some 26) #[true, true, true, true, true, true, true, true, true, true, true, true, true, true, true, true, true, false, false] rfl rfl (yA HT_.out (by kernel_rfl)) (by decide) (fun K hK => ?_)
  refine yD Try.func157 (by kernel_rfl) rfl #[.int .i64 (wrap64 (a1_0 - (wrap64 ((wrap64 (Int.tdiv (wrap64 (a1_1 - t237)) a0_2)) * a0_1)))), .int .i64 a0_0] (by rfl) rfl rfl (by (try simp only [List.map_toArray, List.map_cons, List.map_nil]); first | done | rfl | (simp only [List.length_drop, List.length_take]; rfl)) ?_
  with_reducible refine (impl_mod.calls (wrap64 (a1_0 - (wrap64 ((wrap64 (Int.tdiv (wrap64 (a1_1 - t237)) a0_2)) * a0_1)))) a0_0 t238 _ A5.out).mono ?_
  rintro e w' ⟨rfl, ⟨nd, rfl⟩⟩
  refine ⟨_, rfl, ?_⟩
  refine hK.out _ _ ⟨(zA BK235.out 0).trans rfl, (zA BK235.out 1).trans rfl, (zA BK234.out 0).trans rfl, (zA BK234.out 1).trans rfl, (zA BK234.out 2).trans rfl⟩ (fun hHeld => ?_)
  clear hK K
  refine yB (a' := ?_) ?_ ?_
  rotate_left
  ·
   show Act.put _ (some 26) _ = _
   simp only [Act.put, List.setIfInBounds_toArray, List.set_cons_zero, List.set_cons_succ, zP, zO]
   rfl
  refine zW (i := 17) (N := some 28) (v := ?_) (a' := ?_) #[true, true, true, true, true, true, true, true, true, true, true, true, true, true, true, true, true, true, false] rfl rfl (zT HT_.out (by kernel_rfl)) (fun _ _ _ h => h) (Or.inl ⟨by rfl, ?_⟩) ?_ ?_
  rotate_left
  ·
   intro w'
   go_simp
   with_reducible rfl
  rotate_left
  ·
   simp only [Act.put, List.setIfInBounds_toArray, List.set_cons_zero, List.set_cons_succ, zP, zO]
   rfl
  refine one_ (i := 18) (N := none) #[true, true, true, true, true, true, true, true, true, true, true, true, true, true, true, true, true, true, true] rfl rfl (yA HT_.out (by kernel_rfl)) (by decide) (fun K hK => ?_)
  have hs15 : w14.cell? ⟨gb236, 0, none⟩ = some (.int .i64 0) := (zA BK236.out 0).trans rfl
  have hfs15 := zJ BK236.out 0
  have hns15_0 := NB234_236.out
  have hns15_1 := NB235_236.out
  have hms15_0 := NB236_234.out
  have hms15_1 := NB236_235.out
  have hs16 : w14.cell? ⟨gb236, 1, none⟩ = some (.int .i64 0) := (zA BK236.out 1).trans rfl
  have hfs16 := zJ BK236.out 1
  have hns16_0 := NB234_236.out
  have hns16_1 := NB235_236.out
  have hms16_0 := NB236_234.out
  have hms16_1 := NB236_235.out
  refine skip_ (w1 := ?_) (by rfl) rfl ?_ ?_
  rotate_left
  ·
   go_simp
   rfl
  refine hK.out _ _ ⟨((zU (p := ⟨gb236, _, none⟩) NB235_236.out _).trans (((zU (p := ⟨gb236, _, none⟩) NB235_236.out _).trans (hHeld.1)))), ((zU (p := ⟨gb236, _, none⟩) NB235_236.out _).trans (((zU (p := ⟨gb236, _, none⟩) NB235_236.out _).trans (hHeld.2.1)))), ((zU (p := ⟨gb236, _, none⟩) NB234_236.out _).trans (((zU (p := ⟨gb236, _, none⟩) NB234_236.out _).trans (hHeld.2.2.1)))), ((zU (p := ⟨gb236, _, none⟩) NB234_236.out _).trans (((zU (p := ⟨gb236, _, none⟩) NB234_236.out _).trans (hHeld.2.2.2.1)))), ((zU (p := ⟨gb236, _, none⟩) NB234_236.out _).trans (((zU (p := ⟨gb236, _, none⟩) NB234_236.out _).trans (hHeld.2.2.2.2))))⟩ (fun hHeld => ?_)
  clear hK K
  refine done_ (done_of HT_.out (by kernel_rfl)) ?_
  try go_wp2
  refine bodyPost_ret (results_cell_row rfl _ _ gb236 38 #[.int .i64 t238, .int .i64 t237] (0, 0) _ rfl (by (with_reducible repeat (first | refine zD ?_ _ | refine zG ?_ | refine zE ?_ _)); refine zS (cs := #[.int .i64 t238, .int .i64 0]) ?_ 1 _ rfl; (with_reducible repeat (first | refine zD ?_ _ | refine zG ?_ | refine zE ?_ _)); refine zS (cs := #[.int .i64 0, .int .i64 0]) ?_ 0 _ rfl; (with_reducible repeat (first | refine zD ?_ _ | refine zG ?_ | refine zE ?_ _)); exact BK236.out) Try.underlying38 rfl (by kernel_rfl)) rfl ?_
  exact ⟨by first | rfl | (simp [errW_none, errW_some] <;> rfl) | (simp [*, errW_none, errW_some] <;> rfl), by repeat (first | (with_reducible first | exact HB.out | apply zI | apply zB | apply zF | refine zH ?_ GE234.out | refine zH ?_ GE235.out | refine zH ?_ GE236.out) | exact HB.out)⟩


/-! ### impl_Pattern_at: function 68 -/
def impl_Pattern_at.T1 : Bool × List (List Nat × List Nat) := (true, [([], []), ([0], [0]), ([], []), ([2], [2]), ([], []), ([4], [4]), ([], []), ([5, 6], [5, 6]), ([3, 7, 7], [3, 7]), ([1, 8], [1, 8]), ([9], [9]), ([10, 8, 0, 1, 2, 3, 4, 5, 6, 7, 8, 9, 10], [10])])
def impl_Pattern_at.B1 : List Nat := [0, 1, 0, 4, 0, 16, 0, 112, 252, 511, 1023, 2047]
theorem impl_Pattern_at.tab1 : rtab .any (opsOf Try.f68 1) = impl_Pattern_at.T1 := by kernel_rfl
theorem impl_Pattern_at.bits1 : waitsOk impl_Pattern_at.T1.2 impl_Pattern_at.B1 = true := by kernel_rfl
set_option maxHeartbeats 8000000 in
set_option maxRecDepth 100000 in
theorem impl_Pattern_at.calls (a0_0 : Int) (a0_1 : Int) (a0_2 : Int) (a0_3 : Int) (A0_4 : Option Addr) (c0_4 : Nat) (l0_4 : List Int) (a1_0 : Int) (a1_1 : Int) (r : Int) (w : World) (hr0_4 : Kd.C (Kd.int .i64) w A0_4 l0_4.length l0_4) (hc0_4 : l0_4.length ≤ c0_4) (h : impl_Pattern_at.f a0_0 a0_1 a0_2 a0_3 l0_4 a1_0 a1_1 = some r) :
  Calls Try.prog 68 #[.agg #[.int .i64 a0_0, .int .i64 a0_1, .int .i64 a0_2, .int .i64 a0_3, .slice A0_4 l0_4.length c0_4], .agg #[.int .i64 a1_0, .int .i64 a1_1]] w fun e w' => e = .returned (.int .i64 r) ∧ Below w.heap.size w w' := by
 have hu30 := Try.underlying30
 have hu38 := Try.underlying38
 have hu28 := Try.underlying28
 have HR0_4 := zC.mk hr0_4
 have HC0_4 := zC.mk hc0_4
 clear hr0_4 hc0_4
 have HB := zC.mk (Below.refl w.heap.size w)
 have H : ((impl_Lattice_reduce.f a0_1 a0_2 a0_3 a1_0 a1_1).bind fun bt241 => ((impl_Lattice_number.f a0_1 a0_2 a0_3 bt241.1 bt241.2).bind fun t243 => (if 0 ≤ t243 then (if t243 < (l0_4.length : Int) then (some (rd l0_4 t243)) else (none)) else (none)))) = some r := h
 clear h
 replace H := Option.bind_eq_some_iff.mp H
 obtain ⟨⟨t241, t242⟩, A30, H⟩ := H
 replace H : ((impl_Lattice_number.f a0_1 a0_2 a0_3 t241 t242).bind fun t243 => (if 0 ≤ t243 then (if t243 < (l0_4.length : Int) then (some (rd l0_4 t243)) else (none)) else (none))) = some r := H
 have A3 := zC.mk A30
 clear A30
 replace H := Option.bind_eq_some_iff.mp H
 obtain ⟨t243, A40, H⟩ := H
 replace H : (if 0 ≤ t243 then (if t243 < (l0_4.length : Int) then (some (rd l0_4 t243)) else (none)) else (none)) = some r := H
 have A4 := zC.mk A40
 clear A40
 by_cases c5 : 0 ≤ t243
 ·
  rw [if_pos c5] at H
  have c5b0 : decide (0 ≤ t243) = true := decide_eq_true c5
  clear c5
  by_cases c6 : t243 < (l0_4.length : Int)
  ·
   rw [if_pos c6] at H
   have c6b0 : decide (t243 < (l0_4.length : Int)) = true := decide_eq_true c6
   clear c6
   obtain rfl := Option.some.inj H
   go_enter Try.func68, Try.ntmps68
   try go_wp2_with (first | ((with_reducible refine zQ (N := 2) rfl ?_); refine zN ?hg (N := 2) ?hd (cs := #[.int .i64 a0_0, .int .i64 a0_1, .int .i64 a0_2, .int .i64 a0_3, .slice A0_4 l0_4.length c0_4]) (t := 30) ?hr ?_; (case hd => rfl); (case hg => rfl); (case hr => first | (go_simp; done) | (go_simp; rfl)); intro gb239 hg w7 hbox hb; have n0_ := zC.mk (zL (by repeat (first | (with_reducible first | exact HB.out | apply zI | apply zB | apply zF) | exact HB.out)) hb); have n1_ := zC.mk (hbox); have n2_ := zC.mk ((by rw [hg]; exact (zM (by repeat (first | (with_reducible first | exact HB.out | apply zI | apply zB | apply zF) | exact HB.out))) : w.heap.size ≤ gb239)); have n3_ := n2_; clear HB; have HB := n0_; have BK239 := n1_; have GW239 := n2_; have GE239 := n3_; clear n0_ n1_ n2_ n3_; clear hb hbox hg) | ((with_reducible refine zQ (N := 3) rfl ?_); refine zN ?hg (N := 3) ?hd (cs := #[.int .i64 a1_0, .int .i64 a1_1]) (t := 38) ?hr ?_; (case hd => rfl); (case hg => rfl); (case hr => first | (go_simp; done) | (go_simp; rfl)); intro gb240 hg w8 hbox hb; have n0_ := zC.mk (zK (g := gb239) (o := .cells #[.int .i64 a0_0, .int .i64 a0_1, .int .i64 a0_2, .int .i64 a0_3, .slice A0_4 l0_4.length c0_4] 30 (0, 0)) (by (with_reducible repeat (first | refine zD ?_ _ | refine zG ?_ | refine zE ?_ _)); exact BK239.out) hb); have n1_ := zC.mk (zL (by repeat (first | (with_reducible first | exact HB.out | apply zI | apply zB | apply zF | refine zH ?_ GE239.out) | exact HB.out)) hb); have n2_ := zC.mk (hbox); have n3_ := zC.mk ((by rw [hg]; exact (zM (by repeat (first | (with_reducible first | exact HB.out | apply zI | apply zB | apply zF | refine zH ?_ GE239.out) | exact HB.out))) : w.heap.size ≤ gb240)); have n4_ := n3_; have n5_ := zC.mk ((by rw [hg]; exact Nat.ne_of_lt (zX (by (with_reducible repeat (first | refine zD ?_ _ | refine zG ?_ | refine zE ?_ _)); exact BK239.out)) : gb239 ≠ gb240)); have n6_ := zC.mk n5_.out.symm; clear BK239; clear HB; have BK239 := n0_; have HB := n1_; have BK240 := n2_; have GW240 := n3_; have GE240 := n4_; have NB239_240 := n5_; have NB240_239 := n6_; clear n0_ n1_ n2_ n3_ n4_ n5_ n6_; clear hb hbox hg))
   have n0_ := zC.mk (zG BK239.out)
   have n1_ := zC.mk (zG BK240.out)
   have n2_ := zC.mk (zF HB.out)
   clear BK239
   clear BK240
   clear HB
   have BK239 := n0_
   have BK240 := n1_
   have HB := n2_
   clear n0_ n1_ n2_
   have p244 : 0 ≤ (t243 : Int) := of_decide_eq_true (by first | (with_reducible assumption) | assumption)
   have q244 : t243 < (l0_4.length : Int) := of_decide_eq_true (by first | (with_reducible assumption) | assumption)
   obtain ⟨ad244, e244, hx244_0⟩ := Kd.at_int HR0_4.out t243 p244 q244
   have hw244_0 := hx244_0
   cases e244
   replace hx244_0 := (HB.out.cell (World.block_lt_of_cell? w _ hx244_0)).trans hx244_0
   replace p244 := eq_true p244
   replace q244 := eq_true q244
   refine start_ (n := 12) (S := fun w' => w'.cell? ⟨gb239, 0, none⟩ = some (.int .i64 a0_0) ∧ w'.cell? ⟨gb239, 1, none⟩ = some (.int .i64 a0_1) ∧ w'.cell? ⟨gb239, 2, none⟩ = some (.int .i64 a0_2) ∧ w'.cell? ⟨gb239, 3, none⟩ = some (.int .i64 a0_3) ∧ w'.cell? ⟨gb239, 4, none⟩ = some (.slice (some ad244) l0_4.length c0_4) ∧ w'.cell? ⟨gb240, 0, none⟩ = some (.int .i64 a1_0) ∧ w'.cell? ⟨gb240, 1, none⟩ = some (.int .i64 a1_1) ∧ w'.cell? (ad244.add (t243).toNat) = some (.int .i64 (rd l0_4 t243))) (ds := []) #[false, false, false, false, false, false, false, false, false, false, false, false] (by kernel_rfl) rfl rfl ⟨(zA BK239.out 0).trans rfl, (zA BK239.out 1).trans rfl, (zA BK239.out 2).trans rfl, (zA BK239.out 3).trans rfl, (zA BK239.out 4).trans rfl, (zA BK240.out 0).trans rfl, (zA BK240.out 1).trans rfl, ((HB.out.cell (World.block_lt_of_cell? w _ hw244_0)).trans hw244_0)⟩ (fun hHeld => ?_); refine yE impl_Pattern_at.tab1 impl_Pattern_at.bits1 (fun HT_ HW_ => ?_)
   generalize w8.drew = w9 at BK239 BK240 HB hx244_0 hHeld ⊢
   refine zW (i := 0) (N := some 5) (v := ?_) (a' := ?_) #[true, false, false, false, false, false, false, false, false, false, false, false] rfl rfl (zT HT_.out (by kernel_rfl)) (fun _ _ _ h => h) (Or.inl ⟨by rfl, ?_⟩) ?_ ?_
   rotate_left
   ·
    intro w'
    go_simp
    with_reducible rfl
   rotate_left
   ·
    simp only [Act.put, List.setIfInBounds_toArray, List.set_cons_zero, List.set_cons_succ, zP, zO]
    rfl
   refine zW (i := 2) (N := some 7) (v := ?_) (a' := ?_) #[true, false, true, false, false, false, false, false, false, false, false, false] rfl rfl (zT HT_.out (by kernel_rfl)) (fun _ _ _ h => h) (Or.inl ⟨by rfl, ?_⟩) ?_ ?_
   rotate_left
   ·
    intro w'
    go_simp
    with_reducible rfl
   rotate_left
   ·
    simp only [Act.put, List.setIfInBounds_toArray, List.set_cons_zero, List.set_cons_succ, zP, zO]
    rfl
   refine zW (i := 4) (N := some 9) (v := ?_) (a' := ?_) #[true, false, true, false, true, false, false, false, false, false, false, false] rfl rfl (zT HT_.out (by kernel_rfl)) (fun _ _ _ h => h) (Or.inl ⟨by rfl, ?_⟩) ?_ ?_
   rotate_left
   ·
    intro w'
    go_simp
    with_reducible rfl
   rotate_left
   ·
    simp only [Act.put, List.setIfInBounds_toArray, List.set_cons_zero, List.set_cons_succ, zP, zO]
    rfl
   refine yC (i := 1) (N := some 6) (v := ?_) (a' := ?_) #[true, true, true, false, true, false, false, false, false, false, false, false] rfl rfl (zY HT_.out HW_.out (by kernel_rfl)) (fun _ _ _ h => h) (Or.inl ⟨by rfl, ?_⟩) hHeld ?_ ?_
   rotate_left
   ·
    rintro w' ⟨s0, s1, s2, s3, s4, s5, s6, s7⟩
    go_simp
    with_reducible rfl
   rotate_left
   ·
    simp only [Act.put, List.setIfInBounds_toArray, List.set_cons_zero, List.set_cons_succ, zP, zO]
    rfl
   refine yC (i := 3) (N := some 8) (v := ?_) (a' := ?_) #[true, true, true, true, true, false, false, false, false, false, false, false] rfl rfl (zY HT_.out HW_.out (by kernel_rfl)) (fun _ _ _ h => h) (Or.inl ⟨by rfl, ?_⟩) hHeld ?_ ?_
   rotate_left
   ·
    rintro w' ⟨s0, s1, s2, s3, s4, s5, s6, s7⟩
    go_simp
    with_reducible rfl
   rotate_left
   ·
    simp only [Act.put, List.setIfInBounds_toArray, List.set_cons_zero, List.set_cons_succ, zP, zO]
    rfl
   refine yC (i := 5) (N := some 10) (v := ?_) (a' := ?_) #[true, true, true, true, true, true, false, false, false, false, false, false] rfl rfl (zY HT_.out HW_.out (by kernel_rfl)) (fun _ _ _ h => h) (Or.inl ⟨by rfl, ?_⟩) hHeld ?_ ?_
   rotate_left
   ·
    rintro w' ⟨s0, s1, s2, s3, s4, s5, s6, s7⟩
    go_simp
    with_reducible rfl
   rotate_left
   ·
    simp only [Act.put, List.setIfInBounds_toArray, List.set_cons_zero, List.set_cons_succ, zP, zO]
    rfl
   refine yC (i := 6) (N := some 11) (v := ?_) (a' := ?_) #[true, true, true, true, true, true, true, false, false, false, false, false] rfl rfl (zY HT_.out HW_.out (by kernel_rfl)) (fun _ _ _ h => h) (Or.inl ⟨by rfl, ?_⟩) hHeld ?_ ?_
   rotate_left
   ·
    rintro w' ⟨s0, s1, s2, s3, s4, s5, s6, s7⟩
    go_simp
    with_reducible rfl
   rotate_left
   ·
    simp only [Act.put, List.setIfInBounds_toArray, List.set_cons_zero, List.set_cons_succ, zP, zO]
    rfl
   refine one_ (i := 7) (N := some 12) #[true, true, true, true, true, true, true, true, false, false, false, false] rfl rfl (yA HT_.out (by kernel_rfl)) (by decide) (fun K hK => ?_)
   refine yD Try.func124 (by kernel_rfl) rfl #[.agg #[.int .i64 a0_1, .int .i64 a0_2, .int .i64 a0_3], .agg #[.int .i64 a1_0, .int .i64 a1_1]] (by rfl) rfl rfl (by (try simp only [List.map_toArray, List.map_cons, List.map_nil]); first | done | rfl | (simp only [List.length_drop, List.length_take]; rfl)) ?_
   with_reducible refine (impl_Lattice_reduce.calls a0_1 a0_2 a0_3 a1_0 a1_1 t241 t242 _ A3.out).mono ?_
   rintro e w10 ⟨rfl, hb⟩
   refine ⟨_, rfl, ?_⟩
   have n0_ := zC.mk (zK (g := gb239) (o := .cells #[.int .i64 a0_0, .int .i64 a0_1, .int .i64 a0_2, .int .i64 a0_3, .slice (some ad244) l0_4.length c0_4] 30 (0, 0)) (by (with_reducible repeat (first | refine zD ?_ _ | refine zG ?_ | refine zE ?_ _)); exact BK239.out) hb)
   have n1_ := zC.mk (zK (g := gb240) (o := .cells #[.int .i64 a1_0, .int .i64 a1_1] 38 (0, 0)) (by (with_reducible repeat (first | refine zD ?_ _ | refine zG ?_ | refine zE ?_ _)); exact BK240.out) hb)
   have n2_ := zC.mk (zL (by repeat (first | (with_reducible first | exact HB.out | apply zI | apply zB | apply zF | refine zH ?_ GE239.out | refine zH ?_ GE240.out) | exact HB.out)) hb)
   clear BK239
   clear BK240
   clear HB
   have BK239 := n0_
   have BK240 := n1_
   have HB := n2_
   clear n0_ n1_ n2_
   (try clear hb)
   (try clear hb2)
   (try clear hk)
   (try clear hi)
   refine hK.out _ _ ⟨(zA BK239.out 0).trans rfl, (zA BK239.out 1).trans rfl, (zA BK239.out 2).trans rfl, (zA BK239.out 3).trans rfl, (zA BK239.out 4).trans rfl, (zA BK240.out 0).trans rfl, (zA BK240.out 1).trans rfl, ((HB.out.cell (World.block_lt_of_cell? w _ hw244_0)).trans hw244_0)⟩ (fun hHeld => ?_)
   clear hK K
   refine yB (a' := ?_) ?_ ?_
   rotate_left
   ·
    show Act.put _ (some 12) _ = _
    simp only [Act.put, List.setIfInBounds_toArray, List.set_cons_zero, List.set_cons_succ, zP, zO]
    rfl
   refine one_ (i := 8) (N := some 13) #[true, true, true, true, true, true, true, true, true, false, false, false] rfl rfl (yA HT_.out (by kernel_rfl)) (by decide) (fun K hK => ?_)
   refine yD Try.func123 (by kernel_rfl) rfl #[.agg #[.int .i64 a0_1, .int .i64 a0_2, .int .i64 a0_3], .agg #[.int .i64 t241, .int .i64 t242]] (by rfl) rfl rfl (by (try simp only [List.map_toArray, List.map_cons, List.map_nil]); first | done | rfl | (simp only [List.length_drop, List.length_take]; rfl)) ?_
   with_reducible refine (impl_Lattice_number.calls a0_1 a0_2 a0_3 t241 t242 t243 _ A4.out).mono ?_
   rintro e w11 ⟨rfl, hb⟩
   refine ⟨_, rfl, ?_⟩
   have n0_ := zC.mk (zK (g := gb239) (o := .cells #[.int .i64 a0_0, .int .i64 a0_1, .int .i64 a0_2, .int .i64 a0_3, .slice (some ad244) l0_4.length c0_4] 30 (0, 0)) (by (with_reducible repeat (first | refine zD ?_ _ | refine zG ?_ | refine zE ?_ _)); exact BK239.out) hb)
   have n1_ := zC.mk (zK (g := gb240) (o := .cells #[.int .i64 a1_0, .int .i64 a1_1] 38 (0, 0)) (by (with_reducible repeat (first | refine zD ?_ _ | refine zG ?_ | refine zE ?_ _)); exact BK240.out) hb)
   have n2_ := zC.mk (zL (by repeat (first | (with_reducible first | exact HB.out | apply zI | apply zB | apply zF | refine zH ?_ GE239.out | refine zH ?_ GE240.out) | exact HB.out)) hb)
   clear BK239
   clear BK240
   clear HB
   have BK239 := n0_
   have BK240 := n1_
   have HB := n2_
   clear n0_ n1_ n2_
   (try clear hb)
   (try clear hb2)
   (try clear hk)
   (try clear hi)
   refine hK.out _ _ ⟨(zA BK239.out 0).trans rfl, (zA BK239.out 1).trans rfl, (zA BK239.out 2).trans rfl, (zA BK239.out 3).trans rfl, (zA BK239.out 4).trans rfl, (zA BK240.out 0).trans rfl, (zA BK240.out 1).trans rfl, ((HB.out.cell (World.block_lt_of_cell? w _ hw244_0)).trans hw244_0)⟩ (fun hHeld => ?_)
   clear hK K
   refine yB (a' := ?_) ?_ ?_
   rotate_left
   ·
    show Act.put _ (some 13) _ = _
    simp only [Act.put, List.setIfInBounds_toArray, List.set_cons_zero, List.set_cons_succ, zP, zO]
    rfl
   refine zW (i := 9) (N := some 14) (v := ?_) (a' := ?_) #[true, true, true, true, true, true, true, true, true, true, false, false] rfl rfl (zT HT_.out (by kernel_rfl)) (fun _ _ _ h => h) (Or.inl ⟨by rfl, ?_⟩) ?_ ?_
   rotate_left
   ·
    intro w'
    go_simp
    with_reducible rfl
   rotate_left
   ·
    simp only [Act.put, List.setIfInBounds_toArray, List.set_cons_zero, List.set_cons_succ, zP, zO]
    rfl
   refine yC (i := 10) (N := some 15) (v := ?_) (a' := ?_) #[true, true, true, true, true, true, true, true, true, true, true, false] rfl rfl (zY HT_.out HW_.out (by kernel_rfl)) (fun _ _ _ h => h) (Or.inl ⟨by rfl, ?_⟩) hHeld ?_ ?_
   rotate_left
   ·
    rintro w' ⟨s0, s1, s2, s3, s4, s5, s6, s7⟩
    go_simp
    with_reducible rfl
   rotate_left
   ·
    simp only [Act.put, List.setIfInBounds_toArray, List.set_cons_zero, List.set_cons_succ, zP, zO]
    rfl
   refine zW (i := 11) (N := some 4) (v := ?_) (a' := ?_) #[true, true, true, true, true, true, true, true, true, true, true, true] rfl rfl (zT HT_.out (by kernel_rfl)) (fun _ _ _ h => h) (Or.inl ⟨by rfl, ?_⟩) ?_ ?_
   rotate_left
   ·
    intro w'
    go_simp
    with_reducible rfl
   rotate_left
   ·
    simp only [Act.put, List.setIfInBounds_toArray, List.set_cons_zero, List.set_cons_succ, zP, zO]
    rfl
   refine done_ (done_of HT_.out (by kernel_rfl)) ?_
   try go_wp2
   go_ret
   exact ⟨by first | rfl | (simp [errW_none, errW_some] <;> rfl) | (simp [*, errW_none, errW_some] <;> rfl), by repeat (first | (with_reducible first | exact HB.out | apply zI | apply zB | apply zF | refine zH ?_ GE239.out | refine zH ?_ GE240.out) | exact HB.out)⟩
  ·
   rw [if_neg c6] at H
   exact absurd H (by simp)
 ·
  rw [if_neg c5] at H
  exact absurd H (by simp)


/-! ### impl_Mat_apply: function 131 -/
set_option maxHeartbeats 8000000 in
set_option maxRecDepth 100000 in
theorem impl_Mat_apply.calls (a0_0 : Int) (a0_1 : Int) (a0_2 : Int) (a0_3 : Int) (a1_0 : Int) (a1_1 : Int) (r1 : Int) (r2 : Int) (w : World) (h : impl_Mat_apply.f a0_0 a0_1 a0_2 a0_3 a1_0 a1_1 = some (r1, r2)) :
  Calls Try.prog 131 #[.agg #[.int .i64 a0_0, .int .i64 a0_1, .int .i64 a0_2, .int .i64 a0_3], .agg #[.int .i64 a1_0, .int .i64 a1_1]] w fun e w' => e = .returned (.agg #[.int .i64 r1, .int .i64 r2]) ∧ Below w.heap.size w w' := by
 have hu87 := Try.underlying87
 have hu38 := Try.underlying38
 have HB := zC.mk (Below.refl w.heap.size w)
 have H : (some (wrap64 ((wrap64 (a0_0 * a1_0)) + (wrap64 (a0_1 * a1_1))), wrap64 ((wrap64 (a0_2 * a1_0)) + (wrap64 (a0_3 * a1_1))))) = some (r1, r2) := h
 clear h
 simp only [Option.some.injEq, Prod.mk.injEq] at H
 obtain ⟨rfl, rfl⟩ := H
 go_enter Try.func131, Try.ntmps131
 go_wp2_with (first | ((with_reducible refine zQ (N := 2) rfl ?_); refine zN ?hg (N := 2) ?hd (cs := #[.int .i64 a0_0, .int .i64 a0_1, .int .i64 a0_2, .int .i64 a0_3]) (t := 87) ?hr ?_; (case hd => rfl); (case hg => rfl); (case hr => first | (go_simp; done) | (go_simp; rfl)); intro gb464 hg w3 hbox hb; have n0_ := zC.mk (zL (by repeat (first | (with_reducible first | exact HB.out | apply zI | apply zB | apply zF) | exact HB.out)) hb); have n1_ := zC.mk (hbox); have n2_ := zC.mk ((by rw [hg]; exact (zM (by repeat (first | (with_reducible first | exact HB.out | apply zI | apply zB | apply zF) | exact HB.out))) : w.heap.size ≤ gb464)); have n3_ := n2_; clear HB; have HB := n0_; have BK464 := n1_; have GW464 := n2_; have GE464 := n3_; clear n0_ n1_ n2_ n3_; clear hb hbox hg) | ((with_reducible refine zQ (N := 3) rfl ?_); refine zN ?hg (N := 3) ?hd (cs := #[.int .i64 a1_0, .int .i64 a1_1]) (t := 38) ?hr ?_; (case hd => rfl); (case hg => rfl); (case hr => first | (go_simp; done) | (go_simp; rfl)); intro gb465 hg w4 hbox hb; have n0_ := zC.mk (zK (g := gb464) (o := .cells #[.int .i64 a0_0, .int .i64 a0_1, .int .i64 a0_2, .int .i64 a0_3] 87 (0, 0)) (by (with_reducible repeat (first | refine zD ?_ _ | refine zG ?_ | refine zE ?_ _)); exact BK464.out) hb); have n1_ := zC.mk (zL (by repeat (first | (with_reducible first | exact HB.out | apply zI | apply zB | apply zF | refine zH ?_ GE464.out) | exact HB.out)) hb); have n2_ := zC.mk (hbox); have n3_ := zC.mk ((by rw [hg]; exact (zM (by repeat (first | (with_reducible first | exact HB.out | apply zI | apply zB | apply zF | refine zH ?_ GE464.out) | exact HB.out))) : w.heap.size ≤ gb465)); have n4_ := n3_; have n5_ := zC.mk ((by rw [hg]; exact Nat.ne_of_lt (zX (by (with_reducible repeat (first | refine zD ?_ _ | refine zG ?_ | refine zE ?_ _)); exact BK464.out)) : gb464 ≠ gb465)); have n6_ := zC.mk n5_.out.symm; clear BK464; clear HB; have BK464 := n0_; have HB := n1_; have BK465 := n2_; have GW465 := n3_; have GE465 := n4_; have NB464_465 := n5_; have NB465_464 := n6_; clear n0_ n1_ n2_ n3_ n4_ n5_ n6_; clear hb hbox hg) | ((with_reducible refine zQ (N := 4) rfl ?_); refine zN ?hg (N := 4) ?hd (cs := #[.int .i64 0, .int .i64 0]) (t := 38) ?hr ?_; (case hd => rfl); (case hg => rfl); (case hr => first | (go_simp; done) | (go_simp; rfl)); intro gb466 hg w5 hbox hb; have n0_ := zC.mk (zK (g := gb464) (o := .cells #[.int .i64 a0_0, .int .i64 a0_1, .int .i64 a0_2, .int .i64 a0_3] 87 (0, 0)) (by (with_reducible repeat (first | refine zD ?_ _ | refine zG ?_ | refine zE ?_ _)); exact BK464.out) hb); have n1_ := zC.mk (zK (g := gb465) (o := .cells #[.int .i64 a1_0, .int .i64 a1_1] 38 (0, 0)) (by (with_reducible repeat (first | refine zD ?_ _ | refine zG ?_ | refine zE ?_ _)); exact BK465.out) hb); have n2_ := zC.mk (zL (by repeat (first | (with_reducible first | exact HB.out | apply zI | apply zB | apply zF | refine zH ?_ GE464.out | refine zH ?_ GE465.out) | exact HB.out)) hb); have n3_ := zC.mk (hbox); have n4_ := zC.mk ((by rw [hg]; exact (zM (by repeat (first | (with_reducible first | exact HB.out | apply zI | apply zB | apply zF | refine zH ?_ GE464.out | refine zH ?_ GE465.out) | exact HB.out))) : w.heap.size ≤ gb466)); have n5_ := n4_; have n6_ := zC.mk ((by rw [hg]; exact Nat.ne_of_lt (zX (by (with_reducible repeat (first | refine zD ?_ _ | refine zG ?_ | refine zE ?_ _)); exact BK464.out)) : gb464 ≠ gb466)); have n7_ := zC.mk n6_.out.symm; have n8_ := zC.mk ((by rw [hg]; exact Nat.ne_of_lt (zX (by (with_reducible repeat (first | refine zD ?_ _ | refine zG ?_ | refine zE ?_ _)); exact BK465.out)) : gb465 ≠ gb466)); have n9_ := zC.mk n8_.out.symm; clear BK464; clear BK465; clear HB; have BK464 := n0_; have BK465 := n1_; have HB := n2_; have BK466 := n3_; have GW466 := n4_; have GE466 := n5_; have NB464_466 := n6_; have NB466_464 := n7_; have NB465_466 := n8_; have NB466_465 := n9_; clear n0_ n1_ n2_ n3_ n4_ n5_ n6_ n7_ n8_ n9_; clear hb hbox hg; have hnb6 := NB464_465.out; have hnc6 := NB465_464.out; have hnb7 := NB464_466.out; have hnc7 := NB466_464.out; have hcz8_0 : w5.cell? ⟨gb464, 0, none⟩ = some (.int .i64 a0_0) := (zA BK464.out 0).trans rfl; have hcz8_1 : w5.cell? ⟨gb464, 1, none⟩ = some (.int .i64 a0_1) := (zA BK464.out 1).trans rfl; have hcz8_2 : w5.cell? ⟨gb464, 2, none⟩ = some (.int .i64 a0_2) := (zA BK464.out 2).trans rfl; have hcz8_3 : w5.cell? ⟨gb464, 3, none⟩ = some (.int .i64 a0_3) := (zA BK464.out 3).trans rfl; have hfz8_0 := zJ BK464.out 0; have hfz8_1 := zJ BK464.out 1; have hfz8_2 := zJ BK464.out 2; have hfz8_3 := zJ BK464.out 3; have hnb9 := NB465_466.out; have hnc9 := NB466_465.out; have hcz10_0 : w5.cell? ⟨gb465, 0, none⟩ = some (.int .i64 a1_0) := (zA BK465.out 0).trans rfl; have hcz10_1 : w5.cell? ⟨gb465, 1, none⟩ = some (.int .i64 a1_1) := (zA BK465.out 1).trans rfl; have hfz10_0 := zJ BK465.out 0; have hfz10_1 := zJ BK465.out 1; have hcz11_0 : w5.cell? ⟨gb466, 0, none⟩ = some (.int .i64 0) := (zA BK466.out 0).trans rfl; have hcz11_1 : w5.cell? ⟨gb466, 1, none⟩ = some (.int .i64 0) := (zA BK466.out 1).trans rfl; have hfz11_0 := zJ BK466.out 0; have hfz11_1 := zJ BK466.out 1))
 refine bodyPost_ret (results_cell_row rfl _ _ gb466 38 #[.int .i64 (wrap64 ((wrap64 (a0_0 * a1_0)) + (wrap64 (a0_1 * a1_1)))), .int .i64 (wrap64 ((wrap64 (a0_2 * a1_0)) + (wrap64 (a0_3 * a1_1))))] (0, 0) _ rfl (by (with_reducible repeat (first | refine zD ?_ _ | refine zG ?_ | refine zE ?_ _)); refine zS (cs := #[.int .i64 (wrap64 ((wrap64 (a0_0 * a1_0)) + (wrap64 (a0_1 * a1_1)))), .int .i64 0]) ?_ 1 _ rfl; (with_reducible repeat (first | refine zD ?_ _ | refine zG ?_ | refine zE ?_ _)); refine zS (cs := #[.int .i64 0, .int .i64 0]) ?_ 0 _ rfl; (with_reducible repeat (first | refine zD ?_ _ | refine zG ?_ | refine zE ?_ _)); exact BK466.out) Try.underlying38 rfl (by kernel_rfl)) rfl ?_
 exact ⟨by first | rfl | (simp [errW_none, errW_some] <;> rfl) | (simp [*, errW_none, errW_some] <;> rfl), by repeat (first | (with_reducible first | exact HB.out | apply zI | apply zB | apply zF | refine zH ?_ GE464.out | refine zH ?_ GE465.out | refine zH ?_ GE466.out) | exact HB.out)⟩


/-! ### impl_Motion_apply: function 133 -/
def impl_Motion_apply.T1 : Bool × List (List Nat × List Nat) := (true, [([], []), ([0], [0]), ([], []), ([1, 2], [1, 2]), ([], []), ([4], [4]), ([3, 5, 3], [3, 5]), ([6, 6, 0, 1, 2, 3, 4, 5, 6], [6])])
def impl_Motion_apply.B1 : List Nat := [0, 1, 0, 7, 0, 16, 63, 127]
theorem impl_Motion_apply.tab1 : rtab .any (opsOf Try.f133 1) = impl_Motion_apply.T1 := by kernel_rfl
theorem impl_Motion_apply.bits1 : waitsOk impl_Motion_apply.T1.2 impl_Motion_apply.B1 = true := by kernel_rfl
set_option maxHeartbeats 8000000 in
set_option maxRecDepth 100000 in
theorem impl_Motion_apply.calls (a0_0 : Int) (a0_1 : Int) (a0_2 : Int) (a0_3 : Int) (a0_4 : Int) (a0_5 : Int) (a1_0 : Int) (a1_1 : Int) (r1 : Int) (r2 : Int) (w : World) (h : impl_Motion_apply.f a0_0 a0_1 a0_2 a0_3 a0_4 a0_5 a1_0 a1_1 = some (r1, r2)) :
  Calls Try.prog 133 #[.agg #[.int .i64 a0_0, .int .i64 a0_1, .int .i64 a0_2, .int .i64 a0_3, .int .i64 a0_4, .int .i64 a0_5], .agg #[.int .i64 a1_0, .int .i64 a1_1]] w fun e w' => e = .returned (.agg #[.int .i64 r1, .int .i64 r2]) ∧ Below w.heap.size w w' := by
 have hu90 := Try.underlying90
 have hu38 := Try.underlying38
 have hu87 := Try.underlying87
 have HB := zC.mk (Below.refl w.heap.size w)
 have H : ((impl_Mat_apply.f a0_0 a0_1 a0_2 a0_3 a1_0 a1_1).bind fun bt485 => ((impl_Vec_add.f bt485.1 bt485.2 a0_4 a0_5).bind fun bt487 => (some (bt487.1, bt487.2)))) = some (r1, r2) := h
 clear h
 replace H := Option.bind_eq_some_iff.mp H
 obtain ⟨⟨t485, t486⟩, A30, H⟩ := H
 replace H : ((impl_Vec_add.f t485 t486 a0_4 a0_5).bind fun bt487 => (some (bt487.1, bt487.2))) = some (r1, r2) := H
 have A3 := zC.mk A30
 clear A30
 replace H := Option.bind_eq_some_iff.mp H
 obtain ⟨⟨t487, t488⟩, A40, H⟩ := H
 replace H : (some (t487, t488)) = some (r1, r2) := H
 have A4 := zC.mk A40
 clear A40
 simp only [Option.some.injEq, Prod.mk.injEq] at H
 obtain ⟨rfl, rfl⟩ := H
 go_enter Try.func133, Try.ntmps133
 try go_wp2_with (first | ((with_reducible refine zQ (N := 2) rfl ?_); refine zN ?hg (N := 2) ?hd (cs := #[.int .i64 a0_0, .int .i64 a0_1, .int .i64 a0_2, .int .i64 a0_3, .int .i64 a0_4, .int .i64 a0_5]) (t := 90) ?hr ?_; (case hd => rfl); (case hg => rfl); (case hr => first | (go_simp; done) | (go_simp; rfl)); intro gb482 hg w5 hbox hb; have n0_ := zC.mk (zL (by repeat (first | (with_reducible first | exact HB.out | apply zI | apply zB | apply zF) | exact HB.out)) hb); have n1_ := zC.mk (hbox); have n2_ := zC.mk ((by rw [hg]; exact (zM (by repeat (first | (with_reducible first | exact HB.out | apply zI | apply zB | apply zF) | exact HB.out))) : w.heap.size ≤ gb482)); have n3_ := n2_; clear HB; have HB := n0_; have BK482 := n1_; have GW482 := n2_; have GE482 := n3_; clear n0_ n1_ n2_ n3_; clear hb hbox hg) | ((with_reducible refine zQ (N := 3) rfl ?_); refine zN ?hg (N := 3) ?hd (cs := #[.int .i64 a1_0, .int .i64 a1_1]) (t := 38) ?hr ?_; (case hd => rfl); (case hg => rfl); (case hr => first | (go_simp; done) | (go_simp; rfl)); intro gb483 hg w6 hbox hb; have n0_ := zC.mk (zK (g := gb482) (o := .cells #[.int .i64 a0_0, .int .i64 a0_1, .int .i64 a0_2, .int .i64 a0_3, .int .i64 a0_4, .int .i64 a0_5] 90 (0, 0)) (by (with_reducible repeat (first | refine zD ?_ _ | refine zG ?_ | refine zE ?_ _)); exact BK482.out) hb); have n1_ := zC.mk (zL (by repeat (first | (with_reducible first | exact HB.out | apply zI | apply zB | apply zF | refine zH ?_ GE482.out) | exact HB.out)) hb); have n2_ := zC.mk (hbox); have n3_ := zC.mk ((by rw [hg]; exact (zM (by repeat (first | (with_reducible first | exact HB.out | apply zI | apply zB | apply zF | refine zH ?_ GE482.out) | exact HB.out))) : w.heap.size ≤ gb483)); have n4_ := n3_; have n5_ := zC.mk ((by rw [hg]; exact Nat.ne_of_lt (zX (by (with_reducible repeat (first | refine zD ?_ _ | refine zG ?_ | refine zE ?_ _)); exact BK482.out)) : gb482 ≠ gb483)); have n6_ := zC.mk n5_.out.symm; clear BK482; clear HB; have BK482 := n0_; have HB := n1_; have BK483 := n2_; have GW483 := n3_; have GE483 := n4_; have NB482_483 := n5_; have NB483_482 := n6_; clear n0_ n1_ n2_ n3_ n4_ n5_ n6_; clear hb hbox hg) | ((with_reducible refine zQ (N := 4) rfl ?_); refine zN ?hg (N := 4) ?hd (cs := #[.int .i64 0, .int .i64 0]) (t := 38) ?hr ?_; (case hd => rfl); (case hg => rfl); (case hr => first | (go_simp; done) | (go_simp; rfl)); intro gb484 hg w7 hbox hb; have n0_ := zC.mk (zK (g := gb482) (o := .cells #[.int .i64 a0_0, .int .i64 a0_1, .int .i64 a0_2, .int .i64 a0_3, .int .i64 a0_4, .int .i64 a0_5] 90 (0, 0)) (by (with_reducible repeat (first | refine zD ?_ _ | refine zG ?_ | refine zE ?_ _)); exact BK482.out) hb); have n1_ := zC.mk (zK (g := gb483) (o := .cells #[.int .i64 a1_0, .int .i64 a1_1] 38 (0, 0)) (by (with_reducible repeat (first | refine zD ?_ _ | refine zG ?_ | refine zE ?_ _)); exact BK483.out) hb); have n2_ := zC.mk (zL (by repeat (first | (with_reducible first | exact HB.out | apply zI | apply zB | apply zF | refine zH ?_ GE482.out | refine zH ?_ GE483.out) | exact HB.out)) hb); have n3_ := zC.mk (hbox); have n4_ := zC.mk ((by rw [hg]; exact (zM (by repeat (first | (with_reducible first | exact HB.out | apply zI | apply zB | apply zF | refine zH ?_ GE482.out | refine zH ?_ GE483.out) | exact HB.out))) : w.heap.size ≤ gb484)); have n5_ := n4_; have n6_ := zC.mk ((by rw [hg]; exact Nat.ne_of_lt (zX (by (with_reducible repeat (first | refine zD ?_ _ | refine zG ?_ | refine zE ?_ _)); exact BK482.out)) : gb482 ≠ gb484)); have n7_ := zC.mk n6_.out.symm; have n8_ := zC.mk ((by rw [hg]; exact Nat.ne_of_lt (zX (by (with_reducible repeat (first | refine zD ?_ _ | refine zG ?_ | refine zE ?_ _)); exact BK483.out)) : gb483 ≠ gb484)); have n9_ := zC.mk n8_.out.symm; clear BK482; clear BK483; clear HB; have BK482 := n0_; have BK483 := n1_; have HB := n2_; have BK484 := n3_; have GW484 := n4_; have GE484 := n5_; have NB482_484 := n6_; have NB484_482 := n7_; have NB483_484 := n8_; have NB484_483 := n9_; clear n0_ n1_ n2_ n3_ n4_ n5_ n6_ n7_ n8_ n9_; clear hb hbox hg))
 have n0_ := zC.mk (zG BK482.out)
 have n1_ := zC.mk (zG BK483.out)
 have n2_ := zC.mk (zG BK484.out)
 have n3_ := zC.mk (zF HB.out)
 clear BK482
 clear BK483
 clear BK484
 clear HB
 have BK482 := n0_
 have BK483 := n1_
 have BK484 := n2_
 have HB := n3_
 clear n0_ n1_ n2_ n3_
 refine start_ (n := 8) (S := fun w' => w'.cell? ⟨gb482, 0, none⟩ = some (.int .i64 a0_0) ∧ w'.cell? ⟨gb482, 1, none⟩ = some (.int .i64 a0_1) ∧ w'.cell? ⟨gb482, 2, none⟩ = some (.int .i64 a0_2) ∧ w'.cell? ⟨gb482, 3, none⟩ = some (.int .i64 a0_3) ∧ w'.cell? ⟨gb482, 4, none⟩ = some (.int .i64 a0_4) ∧ w'.cell? ⟨gb482, 5, none⟩ = some (.int .i64 a0_5) ∧ w'.cell? ⟨gb483, 0, none⟩ = some (.int .i64 a1_0) ∧ w'.cell? ⟨gb483, 1, none⟩ = some (.int .i64 a1_1)) (ds := []) #[false, false, false, false, false, false, false, false] (by kernel_rfl) rfl rfl ⟨(zA BK482.out 0).trans rfl, (zA BK482.out 1).trans rfl, (zA BK482.out 2).trans rfl, (zA BK482.out 3).trans rfl, (zA BK482.out 4).trans rfl, (zA BK482.out 5).trans rfl, (zA BK483.out 0).trans rfl, (zA BK483.out 1).trans rfl⟩ (fun hHeld => ?_); refine yE impl_Motion_apply.tab1 impl_Motion_apply.bits1 (fun HT_ HW_ => ?_)
 generalize w7.drew = w8 at BK482 BK483 BK484 HB hHeld ⊢
 refine zW (i := 0) (N := some 5) (v := ?_) (a' := ?_) #[true, false, false, false, false, false, false, false] rfl rfl (zT HT_.out (by kernel_rfl)) (fun _ _ _ h => h) (Or.inl ⟨by rfl, ?_⟩) ?_ ?_
 rotate_left
 ·
  intro w'
  go_simp
  with_reducible rfl
 rotate_left
 ·
  simp only [Act.put, List.setIfInBounds_toArray, List.set_cons_zero, List.set_cons_succ, zP, zO]
  rfl
 refine zW (i := 4) (N := some 9) (v := ?_) (a' := ?_) #[true, false, false, false, true, false, false, false] rfl rfl (zT HT_.out (by kernel_rfl)) (fun _ _ _ h => h) (Or.inl ⟨by rfl, ?_⟩) ?_ ?_
 rotate_left
 ·
  intro w'
  go_simp
  with_reducible rfl
 rotate_left
 ·
  simp only [Act.put, List.setIfInBounds_toArray, List.set_cons_zero, List.set_cons_succ, zP, zO]
  rfl
 refine yC (i := 1) (N := some 6) (v := ?_) (a' := ?_) #[true, true, false, false, true, false, false, false] rfl rfl (zY HT_.out HW_.out (by kernel_rfl)) (fun _ _ _ h => h) (Or.inl ⟨by rfl, ?_⟩) hHeld ?_ ?_
 rotate_left
 ·
  rintro w' ⟨s0, s1, s2, s3, s4, s5, s6, s7⟩
  go_simp
  with_reducible rfl
 rotate_left
 ·
  simp only [Act.put, List.setIfInBounds_toArray, List.set_cons_zero, List.set_cons_succ, zP, zO]
  rfl
 refine yC (i := 2) (N := some 7) (v := ?_) (a' := ?_) #[true, true, true, false, true, false, false, false] rfl rfl (zY HT_.out HW_.out (by kernel_rfl)) (fun _ _ _ h => h) (Or.inl ⟨by rfl, ?_⟩) hHeld ?_ ?_
 rotate_left
 ·
  rintro w' ⟨s0, s1, s2, s3, s4, s5, s6, s7⟩
  go_simp
  with_reducible rfl
 rotate_left
 ·
  simp only [Act.put, List.setIfInBounds_toArray, List.set_cons_zero, List.set_cons_succ, zP, zO]
  rfl
 refine yC (i := 5) (N := some 10) (v := ?_) (a' := ?_) #[true, true, true, false, true, true, false, false] rfl rfl (zY HT_.out HW_.out (by kernel_rfl)) (fun _ _ _ h => h) (Or.inl ⟨by rfl, ?_⟩) hHeld ?_ ?_
 rotate_left
 ·
  rintro w' ⟨s0, s1, s2, s3, s4, s5, s6, s7⟩
  go_simp
  with_reducible rfl
 rotate_left
 ·
  simp only [Act.put, List.setIfInBounds_toArray, List.set_cons_zero, List.set_cons_succ, zP, zO]
  rfl
 refine one_ (i := 3) (N := some 8) #[true, true, true, true, true, true, false, false] rfl rfl (yA HT_.out (by kernel_rfl)) (by decide) (fun K hK => ?_)
 refine yD Try.func131 (by kernel_rfl) rfl #[.agg #[.int .i64 a0_0, .int .i64 a0_1, .int .i64 a0_2, .int .i64 a0_3], .agg #[.int .i64 a1_0, .int .i64 a1_1]] (by rfl) rfl rfl (by (try simp only [List.map_toArray, List.map_cons, List.map_nil]); first | done | rfl | (simp only [List.length_drop, List.length_take]; rfl)) ?_
 with_reducible refine (impl_Mat_apply.calls a0_0 a0_1 a0_2 a0_3 a1_0 a1_1 t485 t486 _ A3.out).mono ?_
 rintro e w9 ⟨rfl, hb⟩
 refine ⟨_, rfl, ?_⟩
 have n0_ := zC.mk (zK (g := gb482) (o := .cells #[.int .i64 a0_0, .int .i64 a0_1, .int .i64 a0_2, .int .i64 a0_3, .int .i64 a0_4, .int .i64 a0_5] 90 (0, 0)) (by (with_reducible repeat (first | refine zD ?_ _ | refine zG ?_ | refine zE ?_ _)); exact BK482.out) hb)
 have n1_ := zC.mk (zK (g := gb483) (o := .cells #[.int .i64 a1_0, .int .i64 a1_1] 38 (0, 0)) (by (with_reducible repeat (first | refine zD ?_ _ | refine zG ?_ | refine zE ?_ _)); exact BK483.out) hb)
 have n2_ := zC.mk (zK (g := gb484) (o := .cells #[.int .i64 0, .int .i64 0] 38 (0, 0)) (by (with_reducible repeat (first | refine zD ?_ _ | refine zG ?_ | refine zE ?_ _)); exact BK484.out) hb)
 have n3_ := zC.mk (zL (by repeat (first | (with_reducible first | exact HB.out | apply zI | apply zB | apply zF | refine zH ?_ GE482.out | refine zH ?_ GE483.out | refine zH ?_ GE484.out) | exact HB.out)) hb)
 clear BK482
 clear BK483
 clear BK484
 clear HB
 have BK482 := n0_
 have BK483 := n1_
 have BK484 := n2_
 have HB := n3_
 clear n0_ n1_ n2_ n3_
 (try clear hb)
 (try clear hb2)
 (try clear hk)
 (try clear hi)
 refine hK.out _ _ ⟨(zA BK482.out 0).trans rfl, (zA BK482.out 1).trans rfl, (zA BK482.out 2).trans rfl, (zA BK482.out 3).trans rfl, (zA BK482.out 4).trans rfl, (zA BK482.out 5).trans rfl, (zA BK483.out 0).trans rfl, (zA BK483.out 1).trans rfl⟩ (fun hHeld => ?_)
 clear hK K
 refine yB (a' := ?_) ?_ ?_
 rotate_left
 ·
  show Act.put _ (some 8) _ = _
  simp only [Act.put, List.setIfInBounds_toArray, List.set_cons_zero, List.set_cons_succ, zP, zO]
  rfl
 refine one_ (i := 6) (N := some 11) #[true, true, true, true, true, true, true, false] rfl rfl (yA HT_.out (by kernel_rfl)) (by decide) (fun K hK => ?_)
 refine yD Try.func122 (by kernel_rfl) rfl #[.agg #[.int .i64 t485, .int .i64 t486], .agg #[.int .i64 a0_4, .int .i64 a0_5]] (by rfl) rfl rfl (by (try simp only [List.map_toArray, List.map_cons, List.map_nil]); first | done | rfl | (simp only [List.length_drop, List.length_take]; rfl)) ?_
 with_reducible refine (impl_Vec_add.calls t485 t486 a0_4 a0_5 t487 t488 _ A4.out).mono ?_
 rintro e w10 ⟨rfl, hb⟩
 refine ⟨_, rfl, ?_⟩
 have n0_ := zC.mk (zK (g := gb482) (o := .cells #[.int .i64 a0_0, .int .i64 a0_1, .int .i64 a0_2, .int .i64 a0_3, .int .i64 a0_4, .int .i64 a0_5] 90 (0, 0)) (by (with_reducible repeat (first | refine zD ?_ _ | refine zG ?_ | refine zE ?_ _)); exact BK482.out) hb)
 have n1_ := zC.mk (zK (g := gb483) (o := .cells #[.int .i64 a1_0, .int .i64 a1_1] 38 (0, 0)) (by (with_reducible repeat (first | refine zD ?_ _ | refine zG ?_ | refine zE ?_ _)); exact BK483.out) hb)
 have n2_ := zC.mk (zK (g := gb484) (o := .cells #[.int .i64 0, .int .i64 0] 38 (0, 0)) (by (with_reducible repeat (first | refine zD ?_ _ | refine zG ?_ | refine zE ?_ _)); exact BK484.out) hb)
 have n3_ := zC.mk (zL (by repeat (first | (with_reducible first | exact HB.out | apply zI | apply zB | apply zF | refine zH ?_ GE482.out | refine zH ?_ GE483.out | refine zH ?_ GE484.out) | exact HB.out)) hb)
 clear BK482
 clear BK483
 clear BK484
 clear HB
 have BK482 := n0_
 have BK483 := n1_
 have BK484 := n2_
 have HB := n3_
 clear n0_ n1_ n2_ n3_
 (try clear hb)
 (try clear hb2)
 (try clear hk)
 (try clear hi)
 refine hK.out _ _ ⟨(zA BK482.out 0).trans rfl, (zA BK482.out 1).trans rfl, (zA BK482.out 2).trans rfl, (zA BK482.out 3).trans rfl, (zA BK482.out 4).trans rfl, (zA BK482.out 5).trans rfl, (zA BK483.out 0).trans rfl, (zA BK483.out 1).trans rfl⟩ (fun hHeld => ?_)
 clear hK K
 refine yB (a' := ?_) ?_ ?_
 rotate_left
 ·
  show Act.put _ (some 11) _ = _
  simp only [Act.put, List.setIfInBounds_toArray, List.set_cons_zero, List.set_cons_succ, zP, zO]
  rfl
 refine one_ (i := 7) (N := none) #[true, true, true, true, true, true, true, true] rfl rfl (yA HT_.out (by kernel_rfl)) (by decide) (fun K hK => ?_)
 have hs11 : w10.cell? ⟨gb484, 0, none⟩ = some (.int .i64 0) := (zA BK484.out 0).trans rfl
 have hfs11 := zJ BK484.out 0
 have hns11_0 := NB482_484.out
 have hns11_1 := NB483_484.out
 have hms11_0 := NB484_482.out
 have hms11_1 := NB484_483.out
 have hs12 : w10.cell? ⟨gb484, 1, none⟩ = some (.int .i64 0) := (zA BK484.out 1).trans rfl
 have hfs12 := zJ BK484.out 1
 have hns12_0 := NB482_484.out
 have hns12_1 := NB483_484.out
 have hms12_0 := NB484_482.out
 have hms12_1 := NB484_483.out
 refine skip_ (w1 := ?_) (by rfl) rfl ?_ ?_
 rotate_left
 ·
  go_simp
  rfl
 refine hK.out _ _ ⟨((zU (p := ⟨gb484, _, none⟩) NB482_484.out _).trans (((zU (p := ⟨gb484, _, none⟩) NB482_484.out _).trans (hHeld.1)))), ((zU (p := ⟨gb484, _, none⟩) NB482_484.out _).trans (((zU (p := ⟨gb484, _, none⟩) NB482_484.out _).trans (hHeld.2.1)))), ((zU (p := ⟨gb484, _, none⟩) NB482_484.out _).trans (((zU (p := ⟨gb484, _, none⟩) NB482_484.out _).trans (hHeld.2.2.1)))), ((zU (p := ⟨gb484, _, none⟩) NB482_484.out _).trans (((zU (p := ⟨gb484, _, none⟩) NB482_484.out _).trans (hHeld.2.2.2.1)))), ((zU (p := ⟨gb484, _, none⟩) NB482_484.out _).trans (((zU (p := ⟨gb484, _, none⟩) NB482_484.out _).trans (hHeld.2.2.2.2.1)))), ((zU (p := ⟨gb484, _, none⟩) NB482_484.out _).trans (((zU (p := ⟨gb484, _, none⟩) NB482_484.out _).trans (hHeld.2.2.2.2.2.1)))), ((zU (p := ⟨gb484, _, none⟩) NB483_484.out _).trans (((zU (p := ⟨gb484, _, none⟩) NB483_484.out _).trans (hHeld.2.2.2.2.2.2.1)))), ((zU (p := ⟨gb484, _, none⟩) NB483_484.out _).trans (((zU (p := ⟨gb484, _, none⟩) NB483_484.out _).trans (hHeld.2.2.2.2.2.2.2))))⟩ (fun hHeld => ?_)
 clear hK K
 refine done_ (done_of HT_.out (by kernel_rfl)) ?_
 try go_wp2
 refine bodyPost_ret (results_cell_row rfl _ _ gb484 38 #[.int .i64 t487, .int .i64 t488] (0, 0) _ rfl (by (with_reducible repeat (first | refine zD ?_ _ | refine zG ?_ | refine zE ?_ _)); refine zS (cs := #[.int .i64 t487, .int .i64 0]) ?_ 1 _ rfl; (with_reducible repeat (first | refine zD ?_ _ | refine zG ?_ | refine zE ?_ _)); refine zS (cs := #[.int .i64 0, .int .i64 0]) ?_ 0 _ rfl; (with_reducible repeat (first | refine zD ?_ _ | refine zG ?_ | refine zE ?_ _)); exact BK484.out) Try.underlying38 rfl (by kernel_rfl)) rfl ?_
 exact ⟨by first | rfl | (simp [errW_none, errW_some] <;> rfl) | (simp [*, errW_none, errW_some] <;> rfl), by repeat (first | (with_reducible first | exact HB.out | apply zI | apply zB | apply zF | refine zH ?_ GE482.out | refine zH ?_ GE483.out | refine zH ?_ GE484.out) | exact HB.out)⟩


/-! ### impl_Pattern_keeps: function 151 -/
def impl_Pattern_keeps.T4 : Bool × List (List Nat × List Nat) := (true, [([], []), ([], []), ([], []), ([1, 2], [1, 2]), ([0, 3, 3], [0, 3]), ([], []), ([5], [5]), ([], []), ([6, 7], [6, 7]), ([8], [8]), ([4, 9], [4, 9])])
def impl_Pattern_keeps.B4 : List Nat := [0, 0, 0, 6, 15, 0, 32, 0, 224, 480, 1023]
theorem impl_Pattern_keeps.tab4 : rtab .any (opsOf Try.f151 4) = impl_Pattern_keeps.T4 := by kernel_rfl
theorem impl_Pattern_keeps.bits4 : waitsOk impl_Pattern_keeps.T4.2 impl_Pattern_keeps.B4 = true := by kernel_rfl
set_option maxHeartbeats 8000000 in
set_option maxRecDepth 100000 in
theorem impl_Pattern_keeps.calls (k : Nat) (a0_0 : Int) (a0_1 : Int) (a0_2 : Int) (a0_3 : Int) (A0_4 : Option Addr) (c0_4 : Nat) (l0_4 : List Int) (a1_0 : Int) (a1_1 : Int) (a1_2 : Int) (a1_3 : Int) (a1_4 : Int) (a1_5 : Int) (r : Bool) (w : World) (hr0_4 : Kd.C (Kd.int .i64) w A0_4 l0_4.length l0_4) (hc0_4 : l0_4.length ≤ c0_4) (h : impl_Pattern_keeps.f k a0_0 a0_1 a0_2 a0_3 l0_4 a1_0 a1_1 a1_2 a1_3 a1_4 a1_5 = some r) :
  Calls Try.prog 151 #[.agg #[.int .i64 a0_0, .int .i64 a0_1, .int .i64 a0_2, .int .i64 a0_3, .slice A0_4 l0_4.length c0_4], .agg #[.int .i64 a1_0, .int .i64 a1_1, .int .i64 a1_2, .int .i64 a1_3, .int .i64 a1_4, .int .i64 a1_5]] w fun e w' => e = .returned (.bool r) ∧ Below w.heap.size w w' := by
 have hu30 := Try.underlying30
 have hu90 := Try.underlying90
 have hu28 := Try.underlying28
 have hu38 := Try.underlying38
 have HR0_4 := zC.mk hr0_4
 have HC0_4 := zC.mk hc0_4
 clear hr0_4 hc0_4
 have HB := zC.mk (Below.refl w.heap.size w)
 have H : ((impl_Lattice_cells.f k a0_1 a0_2 a0_3).bind fun t1425 => (impl_Pattern_keeps.l0 k t1425 (t1425.length : Int) 0 a0_0 a0_1 a0_2 a0_3 l0_4 a1_0 a1_1 a1_2 a1_3 a1_4 a1_5)) = some r := h
 clear h
 replace H := Option.bind_eq_some_iff.mp H
 obtain ⟨t1425, A30, H⟩ := H
 replace H : (impl_Pattern_keeps.l0 k t1425 (t1425.length : Int) 0 a0_0 a0_1 a0_2 a0_3 l0_4 a1_0 a1_1 a1_2 a1_3 a1_4 a1_5) = some r := H
 have A3 := zC.mk A30
 clear A30
 have H' := zC.mk H
 clear H
 go_enter Try.func151, Try.ntmps151
 go_wp2_with (first | ((with_reducible refine zQ (N := 2) rfl ?_); refine zN ?hg (N := 2) ?hd (cs := #[.int .i64 a0_0, .int .i64 a0_1, .int .i64 a0_2, .int .i64 a0_3, .slice A0_4 l0_4.length c0_4]) (t := 30) ?hr ?_; (case hd => rfl); (case hg => rfl); (case hr => first | (go_simp; done) | (go_simp; rfl)); intro gb1423 hg w4 hbox hb; have n0_ := zC.mk (zL (by repeat (first | (with_reducible first | exact HB.out | apply zI | apply zB | apply zF) | exact HB.out)) hb); have n1_ := zC.mk (hbox); have n2_ := zC.mk ((by rw [hg]; exact (zM (by repeat (first | (with_reducible first | exact HB.out | apply zI | apply zB | apply zF) | exact HB.out))) : w.heap.size ≤ gb1423)); have n3_ := n2_; clear HB; have HB := n0_; have BK1423 := n1_; have GW1423 := n2_; have GE1423 := n3_; clear n0_ n1_ n2_ n3_; clear hb hbox hg) | ((with_reducible refine zQ (N := 3) rfl ?_); refine zN ?hg (N := 3) ?hd (cs := #[.int .i64 a1_0, .int .i64 a1_1, .int .i64 a1_2, .int .i64 a1_3, .int .i64 a1_4, .int .i64 a1_5]) (t := 90) ?hr ?_; (case hd => rfl); (case hg => rfl); (case hr => first | (go_simp; done) | (go_simp; rfl)); intro gb1424 hg w5 hbox hb; have n0_ := zC.mk (zK (g := gb1423) (o := .cells #[.int .i64 a0_0, .int .i64 a0_1, .int .i64 a0_2, .int .i64 a0_3, .slice A0_4 l0_4.length c0_4] 30 (0, 0)) (by (with_reducible repeat (first | refine zD ?_ _ | refine zG ?_ | refine zE ?_ _)); exact BK1423.out) hb); have n1_ := zC.mk (zL (by repeat (first | (with_reducible first | exact HB.out | apply zI | apply zB | apply zF | refine zH ?_ GE1423.out) | exact HB.out)) hb); have n2_ := zC.mk (hbox); have n3_ := zC.mk ((by rw [hg]; exact (zM (by repeat (first | (with_reducible first | exact HB.out | apply zI | apply zB | apply zF | refine zH ?_ GE1423.out) | exact HB.out))) : w.heap.size ≤ gb1424)); have n4_ := n3_; have n5_ := zC.mk ((by rw [hg]; exact Nat.ne_of_lt (zX (by (with_reducible repeat (first | refine zD ?_ _ | refine zG ?_ | refine zE ?_ _)); exact BK1423.out)) : gb1423 ≠ gb1424)); have n6_ := zC.mk n5_.out.symm; clear BK1423; clear HB; have BK1423 := n0_; have HB := n1_; have BK1424 := n2_; have GW1424 := n3_; have GE1424 := n4_; have NB1423_1424 := n5_; have NB1424_1423 := n6_; clear n0_ n1_ n2_ n3_ n4_ n5_ n6_; clear hb hbox hg; have hnb6 := NB1423_1424.out; have hnc6 := NB1424_1423.out; have hcz7_0 : w5.cell? ⟨gb1423, 0, none⟩ = some (.int .i64 a0_0) := (zA BK1423.out 0).trans rfl; have hcz7_1 : w5.cell? ⟨gb1423, 1, none⟩ = some (.int .i64 a0_1) := (zA BK1423.out 1).trans rfl; have hcz7_2 : w5.cell? ⟨gb1423, 2, none⟩ = some (.int .i64 a0_2) := (zA BK1423.out 2).trans rfl; have hcz7_3 : w5.cell? ⟨gb1423, 3, none⟩ = some (.int .i64 a0_3) := (zA BK1423.out 3).trans rfl; have hcz7_4 : w5.cell? ⟨gb1423, 4, none⟩ = some (.slice A0_4 l0_4.length c0_4) := (zA BK1423.out 4).trans rfl; have hfz7_0 := zJ BK1423.out 0; have hfz7_1 := zJ BK1423.out 1; have hfz7_2 := zJ BK1423.out 2; have hfz7_3 := zJ BK1423.out 3; have hfz7_4 := zJ BK1423.out 4) | ((with_reducible refine zR (f := 66) rfl ?_); refine zZ (some 9) rfl rfl Try.func66 (by kernel_rfl) rfl #[.agg #[.int .i64 a0_1, .int .i64 a0_2, .int .i64 a0_3]] rfl (by (try simp only [List.map_toArray, List.map_cons, List.map_nil]); first | done | rfl | (simp only [List.length_drop, List.length_take]; rfl)) ?_; (with_reducible refine (impl_Lattice_cells.calls k a0_1 a0_2 a0_3 t1425 _ A3.out).mono ?_); rintro e w8 ⟨v1426, rfl, ho0, hb⟩; refine ⟨_, rfl, ?_⟩; have n0_ := zC.mk (Kd.R_lower ho0 (zM (by repeat (first | (with_reducible first | exact HB.out | apply zI | apply zB | apply zF | refine zH ?_ GE1423.out | refine zH ?_ GE1424.out) | exact HB.out)))); have n1_ := zC.mk (zK (g := gb1423) (o := .cells #[.int .i64 a0_0, .int .i64 a0_1, .int .i64 a0_2, .int .i64 a0_3, .slice A0_4 l0_4.length c0_4] 30 (0, 0)) (by (with_reducible repeat (first | refine zD ?_ _ | refine zG ?_ | refine zE ?_ _)); exact BK1423.out) hb); have n2_ := zC.mk (zK (g := gb1424) (o := .cells #[.int .i64 a1_0, .int .i64 a1_1, .int .i64 a1_2, .int .i64 a1_3, .int .i64 a1_4, .int .i64 a1_5] 90 (0, 0)) (by (with_reducible repeat (first | refine zD ?_ _ | refine zG ?_ | refine zE ?_ _)); exact BK1424.out) hb); have n3_ := zC.mk (zL (by repeat (first | (with_reducible first | exact HB.out | apply zI | apply zB | apply zF | refine zH ?_ GE1423.out | refine zH ?_ GE1424.out) | exact HB.out)) hb); clear BK1423; clear BK1424; clear HB; have HO1427 := n0_; have BK1423 := n1_; have BK1424 := n2_; have HB := n3_; clear n0_ n1_ n2_ n3_; (try clear hb); (try clear hb2); (try clear hk); (try clear hi); (try clear ho0); obtain ⟨Ao9, co9, eo9⟩ := Kd.R_slice HO1427.out; subst eo9))
 go_loopg [11] k (fun kq v11 w' => ∃ (x11_1 : Int), v11 = .int .i64 x11_1 ∧ zC (impl_Pattern_keeps.l0 kq t1425 (t1425.length : Int) x11_1 a0_0 a0_1 a0_2 a0_3 l0_4 a1_0 a1_1 a1_2 a1_3 a1_4 a1_5 = some r) ∧ zC (kq ≤ k) ∧ zC (Kd.R k38 38 w' w.heap.size (fun _ => True) (.slice Ao9 t1425.length co9) t1425) ∧ zC (w'.heap[gb1423]? = some (.cells #[.int .i64 a0_0, .int .i64 a0_1, .int .i64 a0_2, .int .i64 a0_3, (.slice A0_4 l0_4.length c0_4)] 30 (0, 0))) ∧ zC (w'.heap[gb1424]? = some (.cells #[.int .i64 a1_0, .int .i64 a1_1, .int .i64 a1_2, .int .i64 a1_3, .int .i64 a1_4, .int .i64 a1_5] 90 (0, 0))) ∧ zC (Below w.heap.size w w'))
 case atStart => exact ⟨(0), (by first | rfl | (simp; done) | (simp [*]; done)), H', ⟨Nat.le_refl _⟩, ⟨by (with_reducible repeat (first | apply Kd.R_alloc | apply Kd.R_drewN | apply Kd.R_drew)); exact HO1427.out⟩, ⟨by (with_reducible repeat (first | refine zD ?_ _ | refine zG ?_ | refine zE ?_ _)); exact BK1423.out⟩, ⟨by (with_reducible repeat (first | refine zD ?_ _ | refine zG ?_ | refine zE ?_ _)); exact BK1424.out⟩, ⟨by repeat (first | (with_reducible first | exact HB.out | apply zI | apply zB | apply zF | refine zH ?_ GE1423.out | refine zH ?_ GE1424.out) | exact HB.out)⟩⟩
 case round =>
  clear H'
  try clear c1
  try clear p2
  try clear c6
  try clear hcz7_0
  try clear hcz7_1
  try clear hcz7_2
  try clear hcz7_3
  try clear hcz7_4
  try clear hfz7_0
  try clear hfz7_1
  try clear hfz7_2
  try clear hfz7_3
  try clear hfz7_4
  obtain ⟨x11_1, rfl, HA, HK1, HO_9, BK1423, BK1424, HB⟩ := hrel
  cases gk with
  | zero => exact absurd HA.out (by simp [impl_Pattern_keeps.l0])
  | succ k1 =>
   have H := HA.out
   clear HA
   simp only [impl_Pattern_keeps.l0] at H
   by_cases c10 : x11_1 < (t1425.length : Int)
   ·
    rw [if_pos c10] at H
    have c10b0 : decide (x11_1 < (t1425.length : Int)) = true := decide_eq_true c10
    clear c10
    by_cases c11 : 0 ≤ x11_1
    ·
     rw [if_pos c11] at H
     have c11b0 : decide (0 ≤ x11_1) = true := decide_eq_true c11
     clear c11
     by_cases c12 : x11_1 < (t1425.length : Int)
     ·
      rw [if_pos c12] at H
      have c12b0 : decide (x11_1 < (t1425.length : Int)) = true := decide_eq_true c12
      clear c12
      replace H := Option.bind_eq_some_iff.mp H
      obtain ⟨⟨t1430, t1431⟩, A130, H⟩ := H
      replace H : ((impl_Pattern_at.f a0_0 a0_1 a0_2 a0_3 l0_4 t1430 t1431).bind fun t1432 => (if x11_1 < (l0_4.length : Int) then (if t1432 = (rd l0_4 x11_1) then (impl_Pattern_keeps.l0 k1 t1425 (t1425.length : Int) (wrap64 (x11_1 + 1)) a0_0 a0_1 a0_2 a0_3 l0_4 a1_0 a1_1 a1_2 a1_3 a1_4 a1_5) else (some false)) else (none))) = some r := H
      have A13 := zC.mk A130
      clear A130
      replace H := Option.bind_eq_some_iff.mp H
      obtain ⟨t1432, A140, H⟩ := H
      replace H : (if x11_1 < (l0_4.length : Int) then (if t1432 = (rd l0_4 x11_1) then (impl_Pattern_keeps.l0 k1 t1425 (t1425.length : Int) (wrap64 (x11_1 + 1)) a0_0 a0_1 a0_2 a0_3 l0_4 a1_0 a1_1 a1_2 a1_3 a1_4 a1_5) else (some false)) else (none)) = some r := H
      have A14 := zC.mk A140
      clear A140
      by_cases c15 : x11_1 < (l0_4.length : Int)
      ·
       rw [if_pos c15] at H
       have c15b0 : decide (x11_1 < (l0_4.length : Int)) = true := decide_eq_true c15
       clear c15
       by_cases c16 : t1432 = (rd l0_4 x11_1)
       ·
        rw [if_pos c16] at H
        have c16b0 : (t1432 == (rd l0_4 x11_1)) = true := beq_iff_eq.mpr c16
        have c16b1 : (t1432 != (rd l0_4 x11_1)) = false := bne_eq_false_iff_eq.mpr c16
        clear c16
        have H' := zC.mk H
        clear H
        have p1428 : 0 ≤ (x11_1 : Int) := of_decide_eq_true (by first | (with_reducible assumption) | assumption)
        have q1428 : x11_1 < (t1425.length : Int) := of_decide_eq_true (by first | (with_reducible assumption) | assumption)
        obtain ⟨ad1428, e1428, hx1428_0, hx1428_1⟩ := at_T38 (Kd.R_reads' HO_9.out).2.2 x11_1 p1428 q1428
        cases e1428
        replace p1428 := eq_true p1428
        replace q1428 := eq_true q1428
        try go_wp2_with (first | ((with_reducible refine zQ (N := 6) rfl ?_); refine zN ?hg (N := 6) ?hd (cs := #[.int .i64 0, .int .i64 0]) (t := 38) ?hr ?_; (case hd => rfl); (case hg => rfl); (case hr => first | (go_simp; done) | (go_simp; rfl)); intro gb1429 hg w17 hbox hb; have n0_ := zC.mk (Kd.R_below (Kd.R_elderB (by (with_reducible repeat (first | apply Kd.R_alloc | apply Kd.R_drewN | apply Kd.R_drew)); exact HO_9.out) gb1429 (Nat.le_of_eq hg.symm)) hb); have n1_ := zC.mk (zK (g := gb1423) (o := .cells #[.int .i64 a0_0, .int .i64 a0_1, .int .i64 a0_2, .int .i64 a0_3, .slice A0_4 l0_4.length c0_4] 30 (0, 0)) (by (with_reducible repeat (first | refine zD ?_ _ | refine zG ?_ | refine zE ?_ _)); exact BK1423.out) hb); have n2_ := zC.mk (zK (g := gb1424) (o := .cells #[.int .i64 a1_0, .int .i64 a1_1, .int .i64 a1_2, .int .i64 a1_3, .int .i64 a1_4, .int .i64 a1_5] 90 (0, 0)) (by (with_reducible repeat (first | refine zD ?_ _ | refine zG ?_ | refine zE ?_ _)); exact BK1424.out) hb); have n3_ := zC.mk (zL (by repeat (first | (with_reducible first | exact HB.out | apply zI | apply zB | apply zF | refine zH ?_ GE1423.out | refine zH ?_ GE1424.out) | exact HB.out)) hb); have n4_ := zC.mk (hbox); have n5_ := zC.mk ((by rw [hg]; exact (zM (by repeat (first | (with_reducible first | exact HB.out | apply zI | apply zB | apply zF | refine zH ?_ GE1423.out | refine zH ?_ GE1424.out) | exact HB.out))) : w.heap.size ≤ gb1429)); have n6_ := n5_; have n7_ := zC.mk ((by rw [hg]; exact Nat.ne_of_lt (zX (by (with_reducible repeat (first | refine zD ?_ _ | refine zG ?_ | refine zE ?_ _)); exact BK1423.out)) : gb1423 ≠ gb1429)); have n8_ := zC.mk n7_.out.symm; have n9_ := zC.mk ((by rw [hg]; exact Nat.ne_of_lt (zX (by (with_reducible repeat (first | refine zD ?_ _ | refine zG ?_ | refine zE ?_ _)); exact BK1424.out)) : gb1424 ≠ gb1429)); have n10_ := zC.mk n9_.out.symm; clear HO_9; clear BK1423; clear BK1424; clear HB; have HO_9 := n0_; have BK1423 := n1_; have BK1424 := n2_; have HB := n3_; have BK1429 := n4_; have GW1429 := n5_; have GE1429 := n6_; have NB1423_1429 := n7_; have NB1429_1423 := n8_; have NB1424_1429 := n9_; have NB1429_1424 := n10_; clear n0_ n1_ n2_ n3_ n4_ n5_ n6_ n7_ n8_ n9_ n10_; clear hb hbox hg; have hnb18 := NB1429_1423.out; have hnc18 := NB1423_1429.out; have hnb19 := NB1429_1424.out; have hnc19 := NB1424_1429.out; have hcz20_0 : w17.cell? ⟨gb1429, 0, none⟩ = some (.int .i64 0) := (zA BK1429.out 0).trans rfl; have hcz20_1 : w17.cell? ⟨gb1429, 1, none⟩ = some (.int .i64 0) := (zA BK1429.out 1).trans rfl; have hfz20_0 := zJ BK1429.out 0; have hfz20_1 := zJ BK1429.out 1))
        have n0_ : zC (Kd.R k38 38 ((w17.setCell ⟨gb1429, 0, none⟩ (.int .i64 ((rd_T38 t1425 x11_1).f0))).setCell ⟨gb1429, 1, none⟩ (.int .i64 ((rd_T38 t1425 x11_1).f1))) w.heap.size (fun k_ => k_ ≠ gb1429) (.slice (some ad1428) t1425.length co9) t1425) := ⟨by (with_reducible repeat (first | apply Kd.R_alloc | apply Kd.R_drewN | apply Kd.R_drew)); exact Kd.R_mono (Kd.R_far (p := ⟨gb1429, 1, none⟩) (Kd.R_far (p := ⟨gb1429, 0, none⟩) (Kd.R_mono HO_9.out (fun k_ hk => (⟨hk, hk.2⟩ : _ ∧ k_ ≠ gb1429))) (fun _ hk => hk.2) (.int .i64 ((rd_T38 t1425 x11_1).f0))) (fun _ hk => hk.2) (.int .i64 ((rd_T38 t1425 x11_1).f1))) (fun _ hk => hk.1.2)⟩
        have n1_ : zC (((w17.setCell ⟨gb1429, 0, none⟩ (.int .i64 ((rd_T38 t1425 x11_1).f0))).setCell ⟨gb1429, 1, none⟩ (.int .i64 ((rd_T38 t1425 x11_1).f1))).heap[gb1423]? = some (.cells #[.int .i64 a0_0, .int .i64 a0_1, .int .i64 a0_2, .int .i64 a0_3, .slice A0_4 l0_4.length c0_4] 30 (0, 0))) := ⟨by (with_reducible repeat (first | refine zD ?_ _ | refine zG ?_ | refine zE ?_ _)); refine zV ?_ NB1423_1429.out _; (with_reducible repeat (first | refine zD ?_ _ | refine zG ?_ | refine zE ?_ _)); refine zV ?_ NB1423_1429.out _; (with_reducible repeat (first | refine zD ?_ _ | refine zG ?_ | refine zE ?_ _)); exact BK1423.out⟩
        have n2_ : zC (((w17.setCell ⟨gb1429, 0, none⟩ (.int .i64 ((rd_T38 t1425 x11_1).f0))).setCell ⟨gb1429, 1, none⟩ (.int .i64 ((rd_T38 t1425 x11_1).f1))).heap[gb1424]? = some (.cells #[.int .i64 a1_0, .int .i64 a1_1, .int .i64 a1_2, .int .i64 a1_3, .int .i64 a1_4, .int .i64 a1_5] 90 (0, 0))) := ⟨by (with_reducible repeat (first | refine zD ?_ _ | refine zG ?_ | refine zE ?_ _)); refine zV ?_ NB1424_1429.out _; (with_reducible repeat (first | refine zD ?_ _ | refine zG ?_ | refine zE ?_ _)); refine zV ?_ NB1424_1429.out _; (with_reducible repeat (first | refine zD ?_ _ | refine zG ?_ | refine zE ?_ _)); exact BK1424.out⟩
        have n3_ : zC (((w17.setCell ⟨gb1429, 0, none⟩ (.int .i64 ((rd_T38 t1425 x11_1).f0))).setCell ⟨gb1429, 1, none⟩ (.int .i64 ((rd_T38 t1425 x11_1).f1))).heap[gb1429]? = some (.cells #[.int .i64 ((rd_T38 t1425 x11_1).f0), .int .i64 ((rd_T38 t1425 x11_1).f1)] 38 (0, 0))) := ⟨by (with_reducible repeat (first | refine zD ?_ _ | refine zG ?_ | refine zE ?_ _)); refine zS (cs := #[.int .i64 ((rd_T38 t1425 x11_1).f0), .int .i64 0]) ?_ 1 _ rfl; (with_reducible repeat (first | refine zD ?_ _ | refine zG ?_ | refine zE ?_ _)); refine zS (cs := #[.int .i64 0, .int .i64 0]) ?_ 0 _ rfl; (with_reducible repeat (first | refine zD ?_ _ | refine zG ?_ | refine zE ?_ _)); exact BK1429.out⟩
        have n4_ : zC (Below w.heap.size w ((w17.setCell ⟨gb1429, 0, none⟩ (.int .i64 ((rd_T38 t1425 x11_1).f0))).setCell ⟨gb1429, 1, none⟩ (.int .i64 ((rd_T38 t1425 x11_1).f1)))) := ⟨by repeat (first | (with_reducible first | exact HB.out | apply zI | apply zB | apply zF | refine zH ?_ GE1423.out | refine zH ?_ GE1424.out | refine zH ?_ GE1429.out) | exact HB.out)⟩
        (try clear HO_9)
        (try clear BK1423)
        (try clear BK1424)
        (try clear BK1429)
        (try clear HB)
        generalize ((w17.setCell ⟨gb1429, 0, none⟩ (.int .i64 ((rd_T38 t1425 x11_1).f0))).setCell ⟨gb1429, 1, none⟩ (.int .i64 ((rd_T38 t1425 x11_1).f1))) = w21 at n0_ n1_ n2_ n3_ n4_ ⊢
        have HO_9 := n0_
        have BK1423 := n1_
        have BK1424 := n2_
        have BK1429 := n3_
        have HB := n4_
        clear n0_ n1_ n2_ n3_ n4_
        have n0_ := zC.mk (Kd.R_drew HO_9.out)
        have n1_ := zC.mk (zG BK1423.out)
        have n2_ := zC.mk (zG BK1424.out)
        have n3_ := zC.mk (zG BK1429.out)
        have n4_ := zC.mk (zF HB.out)
        clear HO_9
        clear BK1423
        clear BK1424
        clear BK1429
        clear HB
        have HO_9 := n0_
        have BK1423 := n1_
        have BK1424 := n2_
        have BK1429 := n3_
        have HB := n4_
        clear n0_ n1_ n2_ n3_ n4_
        have p1433 : 0 ≤ (x11_1 : Int) := of_decide_eq_true (by first | (with_reducible assumption) | assumption)
        have q1433 : x11_1 < (l0_4.length : Int) := of_decide_eq_true (by first | (with_reducible assumption) | assumption)
        obtain ⟨ad1433, e1433, hx1433_0⟩ := Kd.at_int HR0_4.out x11_1 p1433 q1433
        have hw1433_0 := hx1433_0
        cases e1433
        replace hx1433_0 := (HB.out.cell (World.block_lt_of_cell? w _ hx1433_0)).trans hx1433_0
        replace p1433 := eq_true p1433
        replace q1433 := eq_true q1433
        refine start_ (n := 11) (S := fun w' => w'.cell? ⟨gb1423, 0, none⟩ = some (.int .i64 a0_0) ∧ w'.cell? ⟨gb1423, 1, none⟩ = some (.int .i64 a0_1) ∧ w'.cell? ⟨gb1423, 2, none⟩ = some (.int .i64 a0_2) ∧ w'.cell? ⟨gb1423, 3, none⟩ = some (.int .i64 a0_3) ∧ w'.cell? ⟨gb1423, 4, none⟩ = some (.slice (some ad1433) l0_4.length c0_4) ∧ w'.cell? ⟨gb1424, 0, none⟩ = some (.int .i64 a1_0) ∧ w'.cell? ⟨gb1424, 1, none⟩ = some (.int .i64 a1_1) ∧ w'.cell? ⟨gb1424, 2, none⟩ = some (.int .i64 a1_2) ∧ w'.cell? ⟨gb1424, 3, none⟩ = some (.int .i64 a1_3) ∧ w'.cell? ⟨gb1424, 4, none⟩ = some (.int .i64 a1_4) ∧ w'.cell? ⟨gb1424, 5, none⟩ = some (.int .i64 a1_5) ∧ w'.cell? ⟨gb1429, 0, none⟩ = some (.int .i64 ((rd_T38 t1425 x11_1).f0)) ∧ w'.cell? ⟨gb1429, 1, none⟩ = some (.int .i64 ((rd_T38 t1425 x11_1).f1)) ∧ w'.cell? (ad1433.add (x11_1).toNat) = some (.int .i64 (rd l0_4 x11_1))) (ds := []) #[false, false, false, false, false, false, false, false, false, false, false] (by kernel_rfl) rfl rfl ⟨(zA BK1423.out 0).trans rfl, (zA BK1423.out 1).trans rfl, (zA BK1423.out 2).trans rfl, (zA BK1423.out 3).trans rfl, (zA BK1423.out 4).trans rfl, (zA BK1424.out 0).trans rfl, (zA BK1424.out 1).trans rfl, (zA BK1424.out 2).trans rfl, (zA BK1424.out 3).trans rfl, (zA BK1424.out 4).trans rfl, (zA BK1424.out 5).trans rfl, (zA BK1429.out 0).trans rfl, (zA BK1429.out 1).trans rfl, ((HB.out.cell (World.block_lt_of_cell? w _ hw1433_0)).trans hw1433_0)⟩ (fun hHeld => ?_); refine yE impl_Pattern_keeps.tab4 impl_Pattern_keeps.bits4 (fun HT_ HW_ => ?_)
        generalize w21.drew = w22 at HO_9 BK1423 BK1424 BK1429 HB hx1433_0 hHeld ⊢
        refine zW (i := 5) (N := some 21) (v := ?_) (a' := ?_) #[false, false, false, false, false, true, false, false, false, false, false] rfl rfl (zT HT_.out (by kernel_rfl)) (fun _ _ _ h => h) (Or.inl ⟨by rfl, ?_⟩) ?_ ?_
        rotate_left
        ·
         intro w'
         go_simp
         with_reducible rfl
        rotate_left
        ·
         simp only [Act.put, List.setIfInBounds_toArray, List.set_cons_zero, List.set_cons_succ, zP, zO]
         rfl
        refine zW (i := 7) (N := some 23) (v := ?_) (a' := ?_) #[false, false, false, false, false, true, false, true, false, false, false] rfl rfl (zT HT_.out (by kernel_rfl)) (fun _ _ _ h => h) (Or.inl ⟨by rfl, ?_⟩) ?_ ?_
        rotate_left
        ·
         intro w'
         go_simp
         with_reducible rfl
        rotate_left
        ·
         simp only [Act.put, List.setIfInBounds_toArray, List.set_cons_zero, List.set_cons_succ, zP, zO]
         rfl
        refine yC (i := 0) (N := some 16) (v := ?_) (a' := ?_) #[true, false, false, false, false, true, false, true, false, false, false] rfl rfl (zY HT_.out HW_.out (by kernel_rfl)) (fun _ _ _ h => h) (Or.inl ⟨by rfl, ?_⟩) hHeld ?_ ?_
        rotate_left
        ·
         rintro w' ⟨s0, s1, s2, s3, s4, s5, s6, s7, s8, s9, s10, s11, s12, s13⟩
         go_simp
         with_reducible rfl
        rotate_left
        ·
         simp only [Act.put, List.setIfInBounds_toArray, List.set_cons_zero, List.set_cons_succ, zP, zO]
         rfl
        refine yC (i := 1) (N := some 17) (v := ?_) (a' := ?_) #[true, true, false, false, false, true, false, true, false, false, false] rfl rfl (zY HT_.out HW_.out (by kernel_rfl)) (fun _ _ _ h => h) (Or.inl ⟨by rfl, ?_⟩) hHeld ?_ ?_
        rotate_left
        ·
         rintro w' ⟨s0, s1, s2, s3, s4, s5, s6, s7, s8, s9, s10, s11, s12, s13⟩
         go_simp
         with_reducible rfl
        rotate_left
        ·
         simp only [Act.put, List.setIfInBounds_toArray, List.set_cons_zero, List.set_cons_succ, zP, zO]
         rfl
        refine yC (i := 2) (N := some 18) (v := ?_) (a' := ?_) #[true, true, true, false, false, true, false, true, false, false, false] rfl rfl (zY HT_.out HW_.out (by kernel_rfl)) (fun _ _ _ h => h) (Or.inl ⟨by rfl, ?_⟩) hHeld ?_ ?_
        rotate_left
        ·
         rintro w' ⟨s0, s1, s2, s3, s4, s5, s6, s7, s8, s9, s10, s11, s12, s13⟩
         go_simp
         with_reducible rfl
        rotate_left
        ·
         simp only [Act.put, List.setIfInBounds_toArray, List.set_cons_zero, List.set_cons_succ, zP, zO]
         rfl
        refine yC (i := 6) (N := some 22) (v := ?_) (a' := ?_) #[true, true, true, false, false, true, true, true, false, false, false] rfl rfl (zY HT_.out HW_.out (by kernel_rfl)) (fun _ _ _ h => h) (Or.inl ⟨by rfl, ?_⟩) hHeld ?_ ?_
        rotate_left
        ·
         rintro w' ⟨s0, s1, s2, s3, s4, s5, s6, s7, s8, s9, s10, s11, s12, s13⟩
         go_simp
         with_reducible rfl
        rotate_left
        ·
         simp only [Act.put, List.setIfInBounds_toArray, List.set_cons_zero, List.set_cons_succ, zP, zO]
         rfl
        refine zW (i := 8) (N := some 24) (v := ?_) (a' := ?_) #[true, true, true, false, false, true, true, true, true, false, false] rfl rfl (zT HT_.out (by kernel_rfl)) (fun _ _ _ h => h) (Or.inl ⟨by rfl, ?_⟩) ?_ ?_
        rotate_left
        ·
         intro w'
         go_simp
         with_reducible rfl
        rotate_left
        ·
         simp only [Act.put, List.setIfInBounds_toArray, List.set_cons_zero, List.set_cons_succ, zP, zO]
         rfl
        refine yC (i := 9) (N := some 25) (v := ?_) (a' := ?_) #[true, true, true, false, false, true, true, true, true, true, false] rfl rfl (zY HT_.out HW_.out (by kernel_rfl)) (fun _ _ _ h => h) (Or.inl ⟨by rfl, ?_⟩) hHeld ?_ ?_
        rotate_left
        ·
         rintro w' ⟨s0, s1, s2, s3, s4, s5, s6, s7, s8, s9, s10, s11, s12, s13⟩
         go_simp
         with_reducible rfl
        rotate_left
        ·
         simp only [Act.put, List.setIfInBounds_toArray, List.set_cons_zero, List.set_cons_succ, zP, zO]
         rfl
        refine one_ (i := 3) (N := some 19) #[true, true, true, true, false, true, true, true, true, true, false] rfl rfl (yA HT_.out (by kernel_rfl)) (by decide) (fun K hK => ?_)
        refine yD Try.func133 (by kernel_rfl) rfl #[.agg #[.int .i64 a1_0, .int .i64 a1_1, .int .i64 a1_2, .int .i64 a1_3, .int .i64 a1_4, .int .i64 a1_5], .agg #[.int .i64 ((rd_T38 t1425 x11_1).f0), .int .i64 ((rd_T38 t1425 x11_1).f1)]] (by rfl) rfl rfl (by (try simp only [List.map_toArray, List.map_cons, List.map_nil]); first | done | rfl | (simp only [List.length_drop, List.length_take]; rfl)) ?_
        with_reducible refine (impl_Motion_apply.calls a1_0 a1_1 a1_2 a1_3 a1_4 a1_5 ((rd_T38 t1425 x11_1).f0) ((rd_T38 t1425 x11_1).f1) t1430 t1431 _ A13.out).mono ?_
        rintro e w23 ⟨rfl, hb⟩
        refine ⟨_, rfl, ?_⟩
        have n0_ := zC.mk (Kd.R_below (by (with_reducible repeat (first | apply Kd.R_alloc | apply Kd.R_drewN | apply Kd.R_drew)); exact HO_9.out) hb)
        have n1_ := zC.mk (zK (g := gb1423) (o := .cells #[.int .i64 a0_0, .int .i64 a0_1, .int .i64 a0_2, .int .i64 a0_3, .slice (some ad1433) l0_4.length c0_4] 30 (0, 0)) (by (with_reducible repeat (first | refine zD ?_ _ | refine zG ?_ | refine zE ?_ _)); exact BK1423.out) hb)
        have n2_ := zC.mk (zK (g := gb1424) (o := .cells #[.int .i64 a1_0, .int .i64 a1_1, .int .i64 a1_2, .int .i64 a1_3, .int .i64 a1_4, .int .i64 a1_5] 90 (0, 0)) (by (with_reducible repeat (first | refine zD ?_ _ | refine zG ?_ | refine zE ?_ _)); exact BK1424.out) hb)
        have n3_ := zC.mk (zK (g := gb1429) (o := .cells #[.int .i64 ((rd_T38 t1425 x11_1).f0), .int .i64 ((rd_T38 t1425 x11_1).f1)] 38 (0, 0)) (by (with_reducible repeat (first | refine zD ?_ _ | refine zG ?_ | refine zE ?_ _)); exact BK1429.out) hb)
        have n4_ := zC.mk (zL (by repeat (first | (with_reducible first | exact HB.out | apply zI | apply zB | apply zF | refine zH ?_ GE1423.out | refine zH ?_ GE1424.out | refine zH ?_ GE1429.out) | exact HB.out)) hb)
        clear HO_9
        clear BK1423
        clear BK1424
        clear BK1429
        clear HB
        have HO_9 := n0_
        have BK1423 := n1_
        have BK1424 := n2_
        have BK1429 := n3_
        have HB := n4_
        clear n0_ n1_ n2_ n3_ n4_
        (try clear hb)
        (try clear hb2)
        (try clear hk)
        (try clear hi)
        refine hK.out _ _ ⟨(zA BK1423.out 0).trans rfl, (zA BK1423.out 1).trans rfl, (zA BK1423.out 2).trans rfl, (zA BK1423.out 3).trans rfl, (zA BK1423.out 4).trans rfl, (zA BK1424.out 0).trans rfl, (zA BK1424.out 1).trans rfl, (zA BK1424.out 2).trans rfl, (zA BK1424.out 3).trans rfl, (zA BK1424.out 4).trans rfl, (zA BK1424.out 5).trans rfl, (zA BK1429.out 0).trans rfl, (zA BK1429.out 1).trans rfl, ((HB.out.cell (World.block_lt_of_cell? w _ hw1433_0)).trans hw1433_0)⟩ (fun hHeld => ?_)
        clear hK K
        refine yB (a' := ?_) ?_ ?_
        rotate_left
        ·
         show Act.put _ (some 19) _ = _
         simp only [Act.put, List.setIfInBounds_toArray, List.set_cons_zero, List.set_cons_succ, zP, zO]
         rfl
        refine one_ (i := 4) (N := some 20) #[true, true, true, true, true, true, true, true, true, true, false] rfl rfl (yA HT_.out (by kernel_rfl)) (by decide) (fun K hK => ?_)
        refine yD Try.func68 (by kernel_rfl) rfl #[.agg #[.int .i64 a0_0, .int .i64 a0_1, .int .i64 a0_2, .int .i64 a0_3, .slice (some ad1433) l0_4.length c0_4], .agg #[.int .i64 t1430, .int .i64 t1431]] (by rfl) rfl rfl (by (try simp only [List.map_toArray, List.map_cons, List.map_nil]); first | done | rfl | (simp only [List.length_drop, List.length_take]; rfl)) ?_
        with_reducible refine (impl_Pattern_at.calls a0_0 a0_1 a0_2 a0_3 _ _ l0_4 t1430 t1431 t1432 _ ?side1 ?side2 A14.out).mono ?_
        (case side1 => repeat (first | exact (Kd.C_below HR0_4.out HB.out) | (with_reducible refine Kd.C_alloc ?_ _) | (with_reducible refine Kd.C_drewN ?_ _) | (with_reducible refine Kd.C_drew ?_)))
        (case side2 => exact HC0_4.out)
        rintro e w24 ⟨rfl, hb⟩
        refine ⟨_, rfl, ?_⟩
        have n0_ := zC.mk (Kd.R_below (by (with_reducible repeat (first | apply Kd.R_alloc | apply Kd.R_drewN | apply Kd.R_drew)); exact HO_9.out) hb)
        have n1_ := zC.mk (zK (g := gb1423) (o := .cells #[.int .i64 a0_0, .int .i64 a0_1, .int .i64 a0_2, .int .i64 a0_3, .slice (some ad1433) l0_4.length c0_4] 30 (0, 0)) (by (with_reducible repeat (first | refine zD ?_ _ | refine zG ?_ | refine zE ?_ _)); exact BK1423.out) hb)
        have n2_ := zC.mk (zK (g := gb1424) (o := .cells #[.int .i64 a1_0, .int .i64 a1_1, .int .i64 a1_2, .int .i64 a1_3, .int .i64 a1_4, .int .i64 a1_5] 90 (0, 0)) (by (with_reducible repeat (first | refine zD ?_ _ | refine zG ?_ | refine zE ?_ _)); exact BK1424.out) hb)
        have n3_ := zC.mk (zK (g := gb1429) (o := .cells #[.int .i64 ((rd_T38 t1425 x11_1).f0), .int .i64 ((rd_T38 t1425 x11_1).f1)] 38 (0, 0)) (by (with_reducible repeat (first | refine zD ?_ _ | refine zG ?_ | refine zE ?_ _)); exact BK1429.out) hb)
        have n4_ := zC.mk (zL (by repeat (first | (with_reducible first | exact HB.out | apply zI | apply zB | apply zF | refine zH ?_ GE1423.out | refine zH ?_ GE1424.out | refine zH ?_ GE1429.out) | exact HB.out)) hb)
        clear HO_9
        clear BK1423
        clear BK1424
        clear BK1429
        clear HB
        have HO_9 := n0_
        have BK1423 := n1_
        have BK1424 := n2_
        have BK1429 := n3_
        have HB := n4_
        clear n0_ n1_ n2_ n3_ n4_
        (try clear hb)
        (try clear hb2)
        (try clear hk)
        (try clear hi)
        refine hK.out _ _ ⟨(zA BK1423.out 0).trans rfl, (zA BK1423.out 1).trans rfl, (zA BK1423.out 2).trans rfl, (zA BK1423.out 3).trans rfl, (zA BK1423.out 4).trans rfl, (zA BK1424.out 0).trans rfl, (zA BK1424.out 1).trans rfl, (zA BK1424.out 2).trans rfl, (zA BK1424.out 3).trans rfl, (zA BK1424.out 4).trans rfl, (zA BK1424.out 5).trans rfl, (zA BK1429.out 0).trans rfl, (zA BK1429.out 1).trans rfl, ((HB.out.cell (World.block_lt_of_cell? w _ hw1433_0)).trans hw1433_0)⟩ (fun hHeld => ?_)
        clear hK K
        refine yB (a' := ?_) ?_ ?_
        rotate_left
        ·
         show Act.put _ (some 20) _ = _
         simp only [Act.put, List.setIfInBounds_toArray, List.set_cons_zero, List.set_cons_succ, zP, zO]
         rfl
        refine zW (i := 10) (N := some 26) (v := ?_) (a' := ?_) #[true, true, true, true, true, true, true, true, true, true, true] rfl rfl (zT HT_.out (by kernel_rfl)) (fun _ _ _ h => h) (Or.inl ⟨by rfl, ?_⟩) ?_ ?_
        rotate_left
        ·
         intro w'
         go_simp
         with_reducible rfl
        rotate_left
        ·
         simp only [Act.put, List.setIfInBounds_toArray, List.set_cons_zero, List.set_cons_succ, zP, zO]
         rfl
        refine done_ (done_of HT_.out (by kernel_rfl)) ?_
        try go_wp2
        go_roundg k1
        case measure => have := HK1.out; omega
        case rel => exact ⟨(wrap64 (x11_1 + 1)), (by first | rfl | (simp; done) | (simp [*]; done)), H', ⟨by have := HK1.out; omega⟩, ⟨by (with_reducible repeat (first | apply Kd.R_alloc | apply Kd.R_drewN | apply Kd.R_drew)); exact Kd.R_mono HO_9.out (fun _ hk => trivial)⟩, ⟨by (with_reducible repeat (first | refine zD ?_ _ | refine zG ?_ | refine zE ?_ _)); exact BK1423.out⟩, ⟨by (with_reducible repeat (first | refine zD ?_ _ | refine zG ?_ | refine zE ?_ _)); exact BK1424.out⟩, ⟨by repeat (first | (with_reducible first | exact HB.out | apply zI | apply zB | apply zF | refine zH ?_ GE1423.out | refine zH ?_ GE1424.out | refine zH ?_ GE1429.out) | exact HB.out)⟩⟩
       ·
        rw [if_neg c16] at H
        have c16b0 : (t1432 == (rd l0_4 x11_1)) = false := beq_eq_false_iff_ne.mpr c16
        have c16b1 : (t1432 != (rd l0_4 x11_1)) = true := bne_iff_ne.mpr c16
        obtain rfl := Option.some.inj H
        have p1428 : 0 ≤ (x11_1 : Int) := of_decide_eq_true (by first | (with_reducible assumption) | assumption)
        have q1428 : x11_1 < (t1425.length : Int) := of_decide_eq_true (by first | (with_reducible assumption) | assumption)
        obtain ⟨ad1428, e1428, hx1428_0, hx1428_1⟩ := at_T38 (Kd.R_reads' HO_9.out).2.2 x11_1 p1428 q1428
        cases e1428
        replace p1428 := eq_true p1428
        replace q1428 := eq_true q1428
        try go_wp2_with (first | ((with_reducible refine zQ (N := 6) rfl ?_); refine zN ?hg (N := 6) ?hd (cs := #[.int .i64 0, .int .i64 0]) (t := 38) ?hr ?_; (case hd => rfl); (case hg => rfl); (case hr => first | (go_simp; done) | (go_simp; rfl)); intro gb1429 hg w25 hbox hb; have n0_ := zC.mk (Kd.R_below (Kd.R_elderB (by (with_reducible repeat (first | apply Kd.R_alloc | apply Kd.R_drewN | apply Kd.R_drew)); exact HO_9.out) gb1429 (Nat.le_of_eq hg.symm)) hb); have n1_ := zC.mk (zK (g := gb1423) (o := .cells #[.int .i64 a0_0, .int .i64 a0_1, .int .i64 a0_2, .int .i64 a0_3, .slice A0_4 l0_4.length c0_4] 30 (0, 0)) (by (with_reducible repeat (first | refine zD ?_ _ | refine zG ?_ | refine zE ?_ _)); exact BK1423.out) hb); have n2_ := zC.mk (zK (g := gb1424) (o := .cells #[.int .i64 a1_0, .int .i64 a1_1, .int .i64 a1_2, .int .i64 a1_3, .int .i64 a1_4, .int .i64 a1_5] 90 (0, 0)) (by (with_reducible repeat (first | refine zD ?_ _ | refine zG ?_ | refine zE ?_ _)); exact BK1424.out) hb); have n3_ := zC.mk (zL (by repeat (first | (with_reducible first | exact HB.out | apply zI | apply zB | apply zF | refine zH ?_ GE1423.out | refine zH ?_ GE1424.out) | exact HB.out)) hb); have n4_ := zC.mk (hbox); have n5_ := zC.mk ((by rw [hg]; exact (zM (by repeat (first | (with_reducible first | exact HB.out | apply zI | apply zB | apply zF | refine zH ?_ GE1423.out | refine zH ?_ GE1424.out) | exact HB.out))) : w.heap.size ≤ gb1429)); have n6_ := n5_; have n7_ := zC.mk ((by rw [hg]; exact Nat.ne_of_lt (zX (by (with_reducible repeat (first | refine zD ?_ _ | refine zG ?_ | refine zE ?_ _)); exact BK1423.out)) : gb1423 ≠ gb1429)); have n8_ := zC.mk n7_.out.symm; have n9_ := zC.mk ((by rw [hg]; exact Nat.ne_of_lt (zX (by (with_reducible repeat (first | refine zD ?_ _ | refine zG ?_ | refine zE ?_ _)); exact BK1424.out)) : gb1424 ≠ gb1429)); have n10_ := zC.mk n9_.out.symm; clear HO_9; clear BK1423; clear BK1424; clear HB; have HO_9 := n0_; have BK1423 := n1_; have BK1424 := n2_; have HB := n3_; have BK1429 := n4_; have GW1429 := n5_; have GE1429 := n6_; have NB1423_1429 := n7_; have NB1429_1423 := n8_; have NB1424_1429 := n9_; have NB1429_1424 := n10_; clear n0_ n1_ n2_ n3_ n4_ n5_ n6_ n7_ n8_ n9_ n10_; clear hb hbox hg; have hnb26 := NB1429_1423.out; have hnc26 := NB1423_1429.out; have hnb27 := NB1429_1424.out; have hnc27 := NB1424_1429.out; have hcz28_0 : w25.cell? ⟨gb1429, 0, none⟩ = some (.int .i64 0) := (zA BK1429.out 0).trans rfl; have hcz28_1 : w25.cell? ⟨gb1429, 1, none⟩ = some (.int .i64 0) := (zA BK1429.out 1).trans rfl; have hfz28_0 := zJ BK1429.out 0; have hfz28_1 := zJ BK1429.out 1))
        have n0_ : zC (Kd.R k38 38 ((w25.setCell ⟨gb1429, 0, none⟩ (.int .i64 ((rd_T38 t1425 x11_1).f0))).setCell ⟨gb1429, 1, none⟩ (.int .i64 ((rd_T38 t1425 x11_1).f1))) w.heap.size (fun k_ => k_ ≠ gb1429) (.slice (some ad1428) t1425.length co9) t1425) := ⟨by (with_reducible repeat (first | apply Kd.R_alloc | apply Kd.R_drewN | apply Kd.R_drew)); exact Kd.R_mono (Kd.R_far (p := ⟨gb1429, 1, none⟩) (Kd.R_far (p := ⟨gb1429, 0, none⟩) (Kd.R_mono HO_9.out (fun k_ hk => (⟨hk, hk.2⟩ : _ ∧ k_ ≠ gb1429))) (fun _ hk => hk.2) (.int .i64 ((rd_T38 t1425 x11_1).f0))) (fun _ hk => hk.2) (.int .i64 ((rd_T38 t1425 x11_1).f1))) (fun _ hk => hk.1.2)⟩
        have n1_ : zC (((w25.setCell ⟨gb1429, 0, none⟩ (.int .i64 ((rd_T38 t1425 x11_1).f0))).setCell ⟨gb1429, 1, none⟩ (.int .i64 ((rd_T38 t1425 x11_1).f1))).heap[gb1423]? = some (.cells #[.int .i64 a0_0, .int .i64 a0_1, .int .i64 a0_2, .int .i64 a0_3, .slice A0_4 l0_4.length c0_4] 30 (0, 0))) := ⟨by (with_reducible repeat (first | refine zD ?_ _ | refine zG ?_ | refine zE ?_ _)); refine zV ?_ NB1423_1429.out _; (with_reducible repeat (first | refine zD ?_ _ | refine zG ?_ | refine zE ?_ _)); refine zV ?_ NB1423_1429.out _; (with_reducible repeat (first | refine zD ?_ _ | refine zG ?_ | refine zE ?_ _)); exact BK1423.out⟩
        have n2_ : zC (((w25.setCell ⟨gb1429, 0, none⟩ (.int .i64 ((rd_T38 t1425 x11_1).f0))).setCell ⟨gb1429, 1, none⟩ (.int .i64 ((rd_T38 t1425 x11_1).f1))).heap[gb1424]? = some (.cells #[.int .i64 a1_0, .int .i64 a1_1, .int .i64 a1_2, .int .i64 a1_3, .int .i64 a1_4, .int .i64 a1_5] 90 (0, 0))) := ⟨by (with_reducible repeat (first | refine zD ?_ _ | refine zG ?_ | refine zE ?_ _)); refine zV ?_ NB1424_1429.out _; (with_reducible repeat (first | refine zD ?_ _ | refine zG ?_ | refine zE ?_ _)); refine zV ?_ NB1424_1429.out _; (with_reducible repeat (first | refine zD ?_ _ | refine zG ?_ | refine zE ?_ _)); exact BK1424.out⟩
        have n3_ : zC (((w25.setCell ⟨gb1429, 0, none⟩ (.int .i64 ((rd_T38 t1425 x11_1).f0))).setCell ⟨gb1429, 1, none⟩ (.int .i64 ((rd_T38 t1425 x11_1).f1))).heap[gb1429]? = some (.cells #[.int .i64 ((rd_T38 t1425 x11_1).f0), .int .i64 ((rd_T38 t1425 x11_1).f1)] 38 (0, 0))) := ⟨by (with_reducible repeat (first | refine zD ?_ _ | refine zG ?_ | refine zE ?_ _)); refine zS (cs := #[.int .i64 ((rd_T38 t1425 x11_1).f0), .int .i64 0]) ?_ 1 _ rfl; (with_reducible repeat (first | refine zD ?_ _ | refine zG ?_ | refine zE ?_ _)); refine zS (cs := #[.int .i64 0, .int .i64 0]) ?_ 0 _ rfl; (with_reducible repeat (first | refine zD ?_ _ | refine zG ?_ | refine zE ?_ _)); exact BK1429.out⟩
        have n4_ : zC (Below w.heap.size w ((w25.setCell ⟨gb1429, 0, none⟩ (.int .i64 ((rd_T38 t1425 x11_1).f0))).setCell ⟨gb1429, 1, none⟩ (.int .i64 ((rd_T38 t1425 x11_1).f1)))) := ⟨by repeat (first | (with_reducible first | exact HB.out | apply zI | apply zB | apply zF | refine zH ?_ GE1423.out | refine zH ?_ GE1424.out | refine zH ?_ GE1429.out) | exact HB.out)⟩
        (try clear HO_9)
        (try clear BK1423)
        (try clear BK1424)
        (try clear BK1429)
        (try clear HB)
        generalize ((w25.setCell ⟨gb1429, 0, none⟩ (.int .i64 ((rd_T38 t1425 x11_1).f0))).setCell ⟨gb1429, 1, none⟩ (.int .i64 ((rd_T38 t1425 x11_1).f1))) = w29 at n0_ n1_ n2_ n3_ n4_ ⊢
        have HO_9 := n0_
        have BK1423 := n1_
        have BK1424 := n2_
        have BK1429 := n3_
        have HB := n4_
        clear n0_ n1_ n2_ n3_ n4_
        have n0_ := zC.mk (Kd.R_drew HO_9.out)
        have n1_ := zC.mk (zG BK1423.out)
        have n2_ := zC.mk (zG BK1424.out)
        have n3_ := zC.mk (zG BK1429.out)
        have n4_ := zC.mk (zF HB.out)
        clear HO_9
        clear BK1423
        clear BK1424
        clear BK1429
        clear HB
        have HO_9 := n0_
        have BK1423 := n1_
        have BK1424 := n2_
        have BK1429 := n3_
        have HB := n4_
        clear n0_ n1_ n2_ n3_ n4_
        have p1433 : 0 ≤ (x11_1 : Int) := of_decide_eq_true (by first | (with_reducible assumption) | assumption)
        have q1433 : x11_1 < (l0_4.length : Int) := of_decide_eq_true (by first | (with_reducible assumption) | assumption)
        obtain ⟨ad1433, e1433, hx1433_0⟩ := Kd.at_int HR0_4.out x11_1 p1433 q1433
        have hw1433_0 := hx1433_0
        cases e1433
        replace hx1433_0 := (HB.out.cell (World.block_lt_of_cell? w _ hx1433_0)).trans hx1433_0
        replace p1433 := eq_true p1433
        replace q1433 := eq_true q1433
        refine start_ (n := 11) (S := fun w' => w'.cell? ⟨gb1423, 0, none⟩ = some (.int .i64 a0_0) ∧ w'.cell? ⟨gb1423, 1, none⟩ = some (.int .i64 a0_1) ∧ w'.cell? ⟨gb1423, 2, none⟩ = some (.int .i64 a0_2) ∧ w'.cell? ⟨gb1423, 3, none⟩ = some (.int .i64 a0_3) ∧ w'.cell? ⟨gb1423, 4, none⟩ = some (.slice (some ad1433) l0_4.length c0_4) ∧ w'.cell? ⟨gb1424, 0, none⟩ = some (.int .i64 a1_0) ∧ w'.cell? ⟨gb1424, 1, none⟩ = some (.int .i64 a1_1) ∧ w'.cell? ⟨gb1424, 2, none⟩ = some (.int .i64 a1_2) ∧ w'.cell? ⟨gb1424, 3, none⟩ = some (.int .i64 a1_3) ∧ w'.cell? ⟨gb1424, 4, none⟩ = some (.int .i64 a1_4) ∧ w'.cell? ⟨gb1424, 5, none⟩ = some (.int .i64 a1_5) ∧ w'.cell? ⟨gb1429, 0, none⟩ = some (.int .i64 ((rd_T38 t1425 x11_1).f0)) ∧ w'.cell? ⟨gb1429, 1, none⟩ = some (.int .i64 ((rd_T38 t1425 x11_1).f1)) ∧ w'.cell? (ad1433.add (x11_1).toNat) = some (.int .i64 (rd l0_4 x11_1))) (ds := []) #[false, false, false, false, false, false, false, false, false, false, false] (by kernel_rfl) rfl rfl ⟨(zA BK1423.out 0).trans rfl, (zA BK1423.out 1).trans rfl, (zA BK1423.out 2).trans rfl, (zA BK1423.out 3).trans rfl, (zA BK1423.out 4).trans rfl, (zA BK1424.out 0).trans rfl, (zA BK1424.out 1).trans rfl, (zA BK1424.out 2).trans rfl, (zA BK1424.out 3).trans rfl, (zA BK1424.out 4).trans rfl, (zA BK1424.out 5).trans rfl, (zA BK1429.out 0).trans rfl, (zA BK1429.out 1).trans rfl, ((HB.out.cell (World.block_lt_of_cell? w _ hw1433_0)).trans hw1433_0)⟩ (fun hHeld => ?_); refine yE impl_Pattern_keeps.tab4 impl_Pattern_keeps.bits4 (fun HT_ HW_ => ?_)
        generalize w29.drew = w30 at HO_9 BK1423 BK1424 BK1429 HB hx1433_0 hHeld ⊢
        refine zW (i := 5) (N := some 21) (v := ?_) (a' := ?_) #[false, false, false, false, false, true, false, false, false, false, false] rfl rfl (zT HT_.out (by kernel_rfl)) (fun _ _ _ h => h) (Or.inl ⟨by rfl, ?_⟩) ?_ ?_
        rotate_left
        ·
         intro w'
         go_simp
         with_reducible rfl
        rotate_left
        ·
         simp only [Act.put, List.setIfInBounds_toArray, List.set_cons_zero, List.set_cons_succ, zP, zO]
         rfl
        refine zW (i := 7) (N := some 23) (v := ?_) (a' := ?_) #[false, false, false, false, false, true, false, true, false, false, false] rfl rfl (zT HT_.out (by kernel_rfl)) (fun _ _ _ h => h) (Or.inl ⟨by rfl, ?_⟩) ?_ ?_
        rotate_left
        ·
         intro w'
         go_simp
         with_reducible rfl
        rotate_left
        ·
         simp only [Act.put, List.setIfInBounds_toArray, List.set_cons_zero, List.set_cons_succ, zP, zO]
         rfl
        refine yC (i := 0) (N := some 16) (v := ?_) (a' := ?_) #[true, false, false, false, false, true, false, true, false, false, false] rfl rfl (zY HT_.out HW_.out (by kernel_rfl)) (fun _ _ _ h => h) (Or.inl ⟨by rfl, ?_⟩) hHeld ?_ ?_
        rotate_left
        ·
         rintro w' ⟨s0, s1, s2, s3, s4, s5, s6, s7, s8, s9, s10, s11, s12, s13⟩
         go_simp
         with_reducible rfl
        rotate_left
        ·
         simp only [Act.put, List.setIfInBounds_toArray, List.set_cons_zero, List.set_cons_succ, zP, zO]
         rfl
        refine yC (i := 1) (N := some 17) (v := ?_) (a' := ?_) #[true, true, false, false, false, true, false, true, false, false, false] rfl rfl (zY HT_.out HW_.out (by kernel_rfl)) (fun _ _ _ h => h) (Or.inl ⟨by rfl, ?_⟩) hHeld ?_ ?_
        rotate_left
        ·
         rintro w' ⟨s0, s1, s2, s3, s4, s5, s6, s7, s8, s9, s10, s11, s12, s13⟩
         go_simp
         with_reducible rfl
        rotate_left
        ·
         simp only [Act.put, List.setIfInBounds_toArray, List.set_cons_zero, List.set_cons_succ, zP, zO]
         rfl
        refine yC (i := 2) (N := some 18) (v := ?_) (a' := ?_) #[true, true, true, false, false, true, false, true, false, false, false] rfl rfl (zY HT_.out HW_.out (by kernel_rfl)) (fun _ _ _ h => h) (Or.inl ⟨by rfl, ?_⟩) hHeld ?_ ?_
        rotate_left
        ·
         rintro w' ⟨s0, s1, s2, s3, s4, s5, s6, s7, s8, s9, s10, s11, s12, s13⟩
         go_simp
         with_reducible rfl
        rotate_left
        ·
         simp only [Act.put, List.setIfInBounds_toArray, List.set_cons_zero, List.set_cons_succ, zP, zO]
         rfl
        refine yC (i := 6) (N := some 22) (v := ?_) (a' := ?_) #[true, true, true, false, false, true, true, true, false, false, false] rfl rfl (zY HT_.out HW_.out (by kernel_rfl)) (fun _ _ _ h => h) (Or.inl ⟨by rfl, ?_⟩) hHeld ?_ ?_
        rotate_left
        ·
         rintro w' ⟨s0, s1, s2, s3, s4, s5, s6, s7, s8, s9, s10, s11, s12, s13⟩
         go_simp
         with_reducible rfl
        rotate_left
        ·
         simp only [Act.put, List.setIfInBounds_toArray, List.set_cons_zero, List.set_cons_succ, zP, zO]
         rfl
        refine zW (i := 8) (N := some 24) (v := ?_) (a' := ?_) #[true, true, true, false, false, true, true, true, true, false, false] rfl rfl (zT HT_.out (by kernel_rfl)) (fun _ _ _ h => h) (Or.inl ⟨by rfl, ?_⟩) ?_ ?_
        rotate_left
        ·
         intro w'
         go_simp
         with_reducible rfl
        rotate_left
        ·
         simp only [Act.put, List.setIfInBounds_toArray, List.set_cons_zero, List.set_cons_succ, zP, zO]
         rfl
        refine yC (i := 9) (N := some 25) (v := ?_) (a' := ?_) #[true, true, true, false, false, true, true, true, true, true, false] rfl rfl (zY HT_.out HW_.out (by kernel_rfl)) (fun _ _ _ h => h) (Or.inl ⟨by rfl, ?_⟩) hHeld ?_ ?_
        rotate_left
        ·
         rintro w' ⟨s0, s1, s2, s3, s4, s5, s6, s7, s8, s9, s10, s11, s12, s13⟩
         go_simp
         with_reducible rfl
        rotate_left
        ·
         simp only [Act.put, List.setIfInBounds_toArray, List.set_cons_zero, List.set_cons_succ, zP, zO]
         rfl
        refine one_ (i := 3) (N := some 19) #[true, true, true, true, false, true, true, true, true, true, false] rfl rfl (yA HT_.out (by kernel_rfl)) (by decide) (fun K hK => ?_)
        refine yD Try.func133 (by kernel_rfl) rfl #[.agg #[.int .i64 a1_0, .int .i64 a1_1, .int .i64 a1_2, .int .i64 a1_3, .int .i64 a1_4, .int .i64 a1_5], .agg #[.int .i64 ((rd_T38 t1425 x11_1).f0), .int .i64 ((rd_T38 t1425 x11_1).f1)]] (by rfl) rfl rfl (by (try simp only [List.map_toArray, List.map_cons, List.map_nil]); first | done | rfl | (simp only [List.length_drop, List.length_take]; rfl)) ?_
        with_reducible refine (impl_Motion_apply.calls a1_0 a1_1 a1_2 a1_3 a1_4 a1_5 ((rd_T38 t1425 x11_1).f0) ((rd_T38 t1425 x11_1).f1) t1430 t1431 _ A13.out).mono ?_
        rintro e w31 ⟨rfl, hb⟩
        refine ⟨_, rfl, ?_⟩
        have n0_ := zC.mk (Kd.R_below (by (with_reducible repeat (first | apply Kd.R_alloc | apply Kd.R_drewN | apply Kd.R_drew)); exact HO_9.out) hb)
        have n1_ := zC.mk (zK (g := gb1423) (o := .cells #[.int .i64 a0_0, .int .i64 a0_1, .int .i64 a0_2, .int .i64 a0_3, .slice (some ad1433) l0_4.length c0_4] 30 (0, 0)) (by (with_reducible repeat (first | refine zD ?_ _ | refine zG ?_ | refine zE ?_ _)); exact BK1423.out) hb)
        have n2_ := zC.mk (zK (g := gb1424) (o := .cells #[.int .i64 a1_0, .int .i64 a1_1, .int .i64 a1_2, .int .i64 a1_3, .int .i64 a1_4, .int .i64 a1_5] 90 (0, 0)) (by (with_reducible repeat (first | refine zD ?_ _ | refine zG ?_ | refine zE ?_ _)); exact BK1424.out) hb)
        have n3_ := zC.mk (zK (g := gb1429) (o := .cells #[.int .i64 ((rd_T38 t1425 x11_1).f0), .int .i64 ((rd_T38 t1425 x11_1).f1)] 38 (0, 0)) (by (with_reducible repeat (first | refine zD ?_ _ | refine zG ?_ | refine zE ?_ _)); exact BK1429.out) hb)
        have n4_ := zC.mk (zL (by repeat (first | (with_reducible first | exact HB.out | apply zI | apply zB | apply zF | refine zH ?_ GE1423.out | refine zH ?_ GE1424.out | refine zH ?_ GE1429.out) | exact HB.out)) hb)
        clear HO_9
        clear BK1423
        clear BK1424
        clear BK1429
        clear HB
        have HO_9 := n0_
        have BK1423 := n1_
        have BK1424 := n2_
        have BK1429 := n3_
        have HB := n4_
        clear n0_ n1_ n2_ n3_ n4_
        (try clear hb)
        (try clear hb2)
        (try clear hk)
        (try clear hi)
        refine hK.out _ _ ⟨(zA BK1423.out 0).trans rfl, (zA BK1423.out 1).trans rfl, (zA BK1423.out 2).trans rfl, (zA BK1423.out 3).trans rfl, (zA BK1423.out 4).trans rfl, (zA BK1424.out 0).trans rfl, (zA BK1424.out 1).trans rfl, (zA BK1424.out 2).trans rfl, (zA BK1424.out 3).trans rfl, (zA BK1424.out 4).trans rfl, (zA BK1424.out 5).trans rfl, (zA BK1429.out 0).trans rfl, (zA BK1429.out 1).trans rfl, ((HB.out.cell (World.block_lt_of_cell? w _ hw1433_0)).trans hw1433_0)⟩ (fun hHeld => ?_)
        clear hK K
        refine yB (a' := ?_) ?_ ?_
        rotate_left
        ·
         show Act.put _ (some 19) _ = _
         simp only [Act.put, List.setIfInBounds_toArray, List.set_cons_zero, List.set_cons_succ, zP, zO]
         rfl
        refine one_ (i := 4) (N := some 20) #[true, true, true, true, true, true, true, true, true, true, false] rfl rfl (yA HT_.out (by kernel_rfl)) (by decide) (fun K hK => ?_)
        refine yD Try.func68 (by kernel_rfl) rfl #[.agg #[.int .i64 a0_0, .int .i64 a0_1, .int .i64 a0_2, .int .i64 a0_3, .slice (some ad1433) l0_4.length c0_4], .agg #[.int .i64 t1430, .int .i64 t1431]] (by rfl) rfl rfl (by (try simp only [List.map_toArray, List.map_cons, List.map_nil]); first | done | rfl | (simp only [List.length_drop, List.length_take]; rfl)) ?_
        with_reducible refine (impl_Pattern_at.calls a0_0 a0_1 a0_2 a0_3 _ _ l0_4 t1430 t1431 t1432 _ ?side1 ?side2 A14.out).mono ?_
        (case side1 => repeat (first | exact (Kd.C_below HR0_4.out HB.out) | (with_reducible refine Kd.C_alloc ?_ _) | (with_reducible refine Kd.C_drewN ?_ _) | (with_reducible refine Kd.C_drew ?_)))
        (case side2 => exact HC0_4.out)
        rintro e w32 ⟨rfl, hb⟩
        refine ⟨_, rfl, ?_⟩
        have n0_ := zC.mk (Kd.R_below (by (with_reducible repeat (first | apply Kd.R_alloc | apply Kd.R_drewN | apply Kd.R_drew)); exact HO_9.out) hb)
        have n1_ := zC.mk (zK (g := gb1423) (o := .cells #[.int .i64 a0_0, .int .i64 a0_1, .int .i64 a0_2, .int .i64 a0_3, .slice (some ad1433) l0_4.length c0_4] 30 (0, 0)) (by (with_reducible repeat (first | refine zD ?_ _ | refine zG ?_ | refine zE ?_ _)); exact BK1423.out) hb)
        have n2_ := zC.mk (zK (g := gb1424) (o := .cells #[.int .i64 a1_0, .int .i64 a1_1, .int .i64 a1_2, .int .i64 a1_3, .int .i64 a1_4, .int .i64 a1_5] 90 (0, 0)) (by (with_reducible repeat (first | refine zD ?_ _ | refine zG ?_ | refine zE ?_ _)); exact BK1424.out) hb)
        have n3_ := zC.mk (zK (g := gb1429) (o := .cells #[.int .i64 ((rd_T38 t1425 x11_1).f0), .int .i64 ((rd_T38 t1425 x11_1).f1)] 38 (0, 0)) (by (with_reducible repeat (first | refine zD ?_ _ | refine zG ?_ | refine zE ?_ _)); exact BK1429.out) hb)
        have n4_ := zC.mk (zL (by repeat (first | (with_reducible first | exact HB.out | apply zI | apply zB | apply zF | refine zH ?_ GE1423.out | refine zH ?_ GE1424.out | refine zH ?_ GE1429.out) | exact HB.out)) hb)
        clear HO_9
        clear BK1423
        clear BK1424
        clear BK1429
        clear HB
        have HO_9 := n0_
        have BK1423 := n1_
        have BK1424 := n2_
        have BK1429 := n3_
        have HB := n4_
        clear n0_ n1_ n2_ n3_ n4_
        (try clear hb)
        (try clear hb2)
        (try clear hk)
        (try clear hi)
        refine hK.out _ _ ⟨(zA BK1423.out 0).trans rfl, (zA BK1423.out 1).trans rfl, (zA BK1423.out 2).trans rfl, (zA BK1423.out 3).trans rfl, (zA BK1423.out 4).trans rfl, (zA BK1424.out 0).trans rfl, (zA BK1424.out 1).trans rfl, (zA BK1424.out 2).trans rfl, (zA BK1424.out 3).trans rfl, (zA BK1424.out 4).trans rfl, (zA BK1424.out 5).trans rfl, (zA BK1429.out 0).trans rfl, (zA BK1429.out 1).trans rfl, ((HB.out.cell (World.block_lt_of_cell? w _ hw1433_0)).trans hw1433_0)⟩ (fun hHeld => ?_)
        clear hK K
        refine yB (a' := ?_) ?_ ?_
        rotate_left
        ·
         show Act.put _ (some 20) _ = _
         simp only [Act.put, List.setIfInBounds_toArray, List.set_cons_zero, List.set_cons_succ, zP, zO]
         rfl
        refine zW (i := 10) (N := some 26) (v := ?_) (a' := ?_) #[true, true, true, true, true, true, true, true, true, true, true] rfl rfl (zT HT_.out (by kernel_rfl)) (fun _ _ _ h => h) (Or.inl ⟨by rfl, ?_⟩) ?_ ?_
        rotate_left
        ·
         intro w'
         go_simp
         with_reducible rfl
        rotate_left
        ·
         simp only [Act.put, List.setIfInBounds_toArray, List.set_cons_zero, List.set_cons_succ, zP, zO]
         rfl
        refine done_ (done_of HT_.out (by kernel_rfl)) ?_
        try go_wp2
        go_ret
        exact ⟨by first | rfl | (simp [errW_none, errW_some] <;> rfl) | (simp [*, errW_none, errW_some] <;> rfl), by repeat (first | (with_reducible first | exact HB.out | apply zI | apply zB | apply zF | refine zH ?_ GE1423.out | refine zH ?_ GE1424.out | refine zH ?_ GE1429.out) | exact HB.out)⟩
      ·
       rw [if_neg c15] at H
       exact absurd H (by simp)
     ·
      rw [if_neg c12] at H
      exact absurd H (by simp)
    ·
     rw [if_neg c11] at H
     exact absurd H (by simp)
   ·
    rw [if_neg c10] at H
    have c10b0 : decide (x11_1 < (t1425.length : Int)) = false := decide_eq_false c10
    clear c10
    obtain rfl := Option.some.inj H
    go_wp2
    go_ret
    exact ⟨by first | rfl | (simp [errW_none, errW_some] <;> rfl) | (simp [*, errW_none, errW_some] <;> rfl), by repeat (first | (with_reducible first | exact HB.out | apply zI | apply zB | apply zF | refine zH ?_ GE1423.out | refine zH ?_ GE1424.out) | exact HB.out)⟩


/-! ### impl_Pattern_fullLattice: function 149 -/
set_option maxHeartbeats 8000000 in
set_option maxRecDepth 100000 in
theorem impl_Pattern_fullLattice.calls (k : Nat) (a0_0 : Int) (a0_1 : Int) (a0_2 : Int) (a0_3 : Int) (A0_4 : Option Addr) (c0_4 : Nat) (l0_4 : List Int) (r1 : Int) (r2 : Int) (r3 : Int) (w : World) (hr0_4 : Kd.C (Kd.int .i64) w A0_4 l0_4.length l0_4) (hc0_4 : l0_4.length ≤ c0_4) (h : impl_Pattern_fullLattice.f k a0_0 a0_1 a0_2 a0_3 l0_4 = some (r1, r2, r3)) :
  Calls Try.prog 149 #[.agg #[.int .i64 a0_0, .int .i64 a0_1, .int .i64 a0_2, .int .i64 a0_3, .slice A0_4 l0_4.length c0_4]] w fun e w' => e = .returned (.agg #[.int .i64 r1, .int .i64 r2, .int .i64 r3]) ∧ Below w.heap.size w w' := by
 have hu30 := Try.underlying30
 have hu28 := Try.underlying28
 have hu38 := Try.underlying38
 have hu90 := Try.underlying90
 have HR0_4 := zC.mk hr0_4
 have HC0_4 := zC.mk hc0_4
 clear hr0_4 hc0_4
 have HB := zC.mk (Below.refl w.heap.size w)
 have H : ((impl_Lattice_basis.f a0_1 a0_2 a0_3).bind fun bt1436 => ((impl_Lattice_cells.f k a0_1 a0_2 a0_3).bind fun t1445 => (impl_Pattern_fullLattice.l0 k (([(⟨bt1436.1, bt1436.2.1⟩ : S38), (⟨bt1436.2.2.1, bt1436.2.2.2⟩ : S38)] : List (S38))) t1445 (t1445.length : Int) 0 a0_0 a0_1 a0_2 a0_3 l0_4))) = some (r1, r2, r3) := h
 clear h
 replace H := Option.bind_eq_some_iff.mp H
 obtain ⟨⟨t1436, t1437, t1438, t1439⟩, A20, H⟩ := H
 replace H : ((impl_Lattice_cells.f k a0_1 a0_2 a0_3).bind fun t1445 => (impl_Pattern_fullLattice.l0 k (([(⟨t1436, t1437⟩ : S38), (⟨t1438, t1439⟩ : S38)] : List (S38))) t1445 (t1445.length : Int) 0 a0_0 a0_1 a0_2 a0_3 l0_4)) = some (r1, r2, r3) := H
 have A2 := zC.mk A20
 clear A20
 obtain ⟨y1442, hy1442⟩ : ∃ y_ : List (S38), y_ = (([(⟨t1436, t1437⟩ : S38), (⟨t1438, t1439⟩ : S38)] : List (S38))) := ⟨_, rfl⟩
 replace H : ((impl_Lattice_cells.f k a0_1 a0_2 a0_3).bind fun t1445 => (impl_Pattern_fullLattice.l0 k y1442 t1445 (t1445.length : Int) 0 a0_0 a0_1 a0_2 a0_3 l0_4)) = some (r1, r2, r3) := by first | (rw [hy1442]; with_reducible exact H) | (have H2_ := (Option.bind_some _ _).symm.trans H; rw [hy1442]; with_reducible exact H2_) | (have H2_ := (Option.bind_some _ _).symm.trans H; with_reducible exact H2_) | with_reducible exact H | (rw [hy1442]; exact H) | exact H
 have Ny1442 := zC.mk hy1442
 clear hy1442
 replace H := Option.bind_eq_some_iff.mp H
 obtain ⟨t1445, A30, H⟩ := H
 replace H : (impl_Pattern_fullLattice.l0 k y1442 t1445 (t1445.length : Int) 0 a0_0 a0_1 a0_2 a0_3 l0_4) = some (r1, r2, r3) := H
 have A3 := zC.mk A30
 clear A30
 have H' := zC.mk H
 clear H
 go_enter Try.func149, Try.ntmps149
 go_wp2_with (first | ((with_reducible refine zQ (N := 1) rfl ?_); refine zN ?hg (N := 1) ?hd (cs := #[.int .i64 a0_0, .int .i64 a0_1, .int .i64 a0_2, .int .i64 a0_3, .slice A0_4 l0_4.length c0_4]) (t := 30) ?hr ?_; (case hd => rfl); (case hg => rfl); (case hr => first | (go_simp; done) | (go_simp; rfl)); intro gb1434 hg w4 hbox hb; have n0_ := zC.mk (zL (by repeat (first | (with_reducible first | exact HB.out | apply zI | apply zB | apply zF) | exact HB.out)) hb); have n1_ := zC.mk (hbox); have n2_ := zC.mk ((by rw [hg]; exact (zM (by repeat (first | (with_reducible first | exact HB.out | apply zI | apply zB | apply zF) | exact HB.out))) : w.heap.size ≤ gb1434)); have n3_ := n2_; clear HB; have HB := n0_; have BK1434 := n1_; have GW1434 := n2_; have GE1434 := n3_; clear n0_ n1_ n2_ n3_; clear hb hbox hg) | ((with_reducible refine zQ (N := 2) rfl ?_); refine zN ?hg (N := 2) ?hd (cs := #[.int .i64 0, .int .i64 0, .int .i64 0]) (t := 28) ?hr ?_; (case hd => rfl); (case hg => rfl); (case hr => first | (go_simp; done) | (go_simp; rfl)); intro gb1435 hg w5 hbox hb; have n0_ := zC.mk (zK (g := gb1434) (o := .cells #[.int .i64 a0_0, .int .i64 a0_1, .int .i64 a0_2, .int .i64 a0_3, .slice A0_4 l0_4.length c0_4] 30 (0, 0)) (by (with_reducible repeat (first | refine zD ?_ _ | refine zG ?_ | refine zE ?_ _)); exact BK1434.out) hb); have n1_ := zC.mk (zL (by repeat (first | (with_reducible first | exact HB.out | apply zI | apply zB | apply zF | refine zH ?_ GE1434.out) | exact HB.out)) hb); have n2_ := zC.mk (hbox); have n3_ := zC.mk ((by rw [hg]; exact (zM (by repeat (first | (with_reducible first | exact HB.out | apply zI | apply zB | apply zF | refine zH ?_ GE1434.out) | exact HB.out))) : w.heap.size ≤ gb1435)); have n4_ := n3_; have n5_ := zC.mk ((by rw [hg]; exact Nat.ne_of_lt (zX (by (with_reducible repeat (first | refine zD ?_ _ | refine zG ?_ | refine zE ?_ _)); exact BK1434.out)) : gb1434 ≠ gb1435)); have n6_ := zC.mk n5_.out.symm; clear BK1434; clear HB; have BK1434 := n0_; have HB := n1_; have BK1435 := n2_; have GW1435 := n3_; have GE1435 := n4_; have NB1434_1435 := n5_; have NB1435_1434 := n6_; clear n0_ n1_ n2_ n3_ n4_ n5_ n6_; clear hb hbox hg; have hnb6 := NB1434_1435.out; have hnc6 := NB1435_1434.out; have hcz7_0 : w5.cell? ⟨gb1434, 0, none⟩ = some (.int .i64 a0_0) := (zA BK1434.out 0).trans rfl; have hcz7_1 : w5.cell? ⟨gb1434, 1, none⟩ = some (.int .i64 a0_1) := (zA BK1434.out 1).trans rfl; have hcz7_2 : w5.cell? ⟨gb1434, 2, none⟩ = some (.int .i64 a0_2) := (zA BK1434.out 2).trans rfl; have hcz7_3 : w5.cell? ⟨gb1434, 3, none⟩ = some (.int .i64 a0_3) := (zA BK1434.out 3).trans rfl; have hcz7_4 : w5.cell? ⟨gb1434, 4, none⟩ = some (.slice A0_4 l0_4.length c0_4) := (zA BK1434.out 4).trans rfl; have hfz7_0 := zJ BK1434.out 0; have hfz7_1 := zJ BK1434.out 1; have hfz7_2 := zJ BK1434.out 2; have hfz7_3 := zJ BK1434.out 3; have hfz7_4 := zJ BK1434.out 4) | ((with_reducible refine zR (f := 129) rfl ?_); refine zZ (some 11) rfl rfl Try.func129 (by kernel_rfl) rfl #[.agg #[.int .i64 a0_1, .int .i64 a0_2, .int .i64 a0_3]] rfl (by (try simp only [List.map_toArray, List.map_cons, List.map_nil]); first | done | rfl | (simp only [List.length_drop, List.length_take]; rfl)) ?_; (with_reducible refine (impl_Lattice_basis.calls a0_1 a0_2 a0_3 t1436 t1437 t1438 t1439 _ A2.out).mono ?_); rintro e w8 ⟨rfl, hb⟩; refine ⟨_, rfl, ?_⟩; have n0_ := zC.mk (zK (g := gb1434) (o := .cells #[.int .i64 a0_0, .int .i64 a0_1, .int .i64 a0_2, .int .i64 a0_3, .slice A0_4 l0_4.length c0_4] 30 (0, 0)) (by (with_reducible repeat (first | refine zD ?_ _ | refine zG ?_ | refine zE ?_ _)); exact BK1434.out) hb); have n1_ := zC.mk (zK (g := gb1435) (o := .cells #[.int .i64 0, .int .i64 0, .int .i64 0] 28 (0, 0)) (by (with_reducible repeat (first | refine zD ?_ _ | refine zG ?_ | refine zE ?_ _)); exact BK1435.out) hb); have n2_ := zC.mk (zL (by repeat (first | (with_reducible first | exact HB.out | apply zI | apply zB | apply zF | refine zH ?_ GE1434.out | refine zH ?_ GE1435.out) | exact HB.out)) hb); clear BK1434; clear BK1435; clear HB; have BK1434 := n0_; have BK1435 := n1_; have HB := n2_; clear n0_ n1_ n2_; (try clear hb); (try clear hb2); (try clear hk); (try clear hi)) | ((with_reducible refine zQ (N := 3) rfl ?_); refine zN ?hg (N := 3) ?hd (cs := #[.int .i64 0, .int .i64 0]) (t := 38) ?hr ?_; (case hd => rfl); (case hg => rfl); (case hr => first | (go_simp; done) | (go_simp; rfl)); intro gb1440 hg w9 hbox hb; have n0_ := zC.mk (zK (g := gb1434) (o := .cells #[.int .i64 a0_0, .int .i64 a0_1, .int .i64 a0_2, .int .i64 a0_3, .slice A0_4 l0_4.length c0_4] 30 (0, 0)) (by (with_reducible repeat (first | refine zD ?_ _ | refine zG ?_ | refine zE ?_ _)); exact BK1434.out) hb); have n1_ := zC.mk (zK (g := gb1435) (o := .cells #[.int .i64 0, .int .i64 0, .int .i64 0] 28 (0, 0)) (by (with_reducible repeat (first | refine zD ?_ _ | refine zG ?_ | refine zE ?_ _)); exact BK1435.out) hb); have n2_ := zC.mk (zL (by repeat (first | (with_reducible first | exact HB.out | apply zI | apply zB | apply zF | refine zH ?_ GE1434.out | refine zH ?_ GE1435.out) | exact HB.out)) hb); have n3_ := zC.mk (hbox); have n4_ := zC.mk ((by rw [hg]; exact (zM (by repeat (first | (with_reducible first | exact HB.out | apply zI | apply zB | apply zF | refine zH ?_ GE1434.out | refine zH ?_ GE1435.out) | exact HB.out))) : w.heap.size ≤ gb1440)); have n5_ := n4_; have n6_ := zC.mk ((by rw [hg]; exact Nat.ne_of_lt (zX (by (with_reducible repeat (first | refine zD ?_ _ | refine zG ?_ | refine zE ?_ _)); exact BK1434.out)) : gb1434 ≠ gb1440)); have n7_ := zC.mk n6_.out.symm; have n8_ := zC.mk ((by rw [hg]; exact Nat.ne_of_lt (zX (by (with_reducible repeat (first | refine zD ?_ _ | refine zG ?_ | refine zE ?_ _)); exact BK1435.out)) : gb1435 ≠ gb1440)); have n9_ := zC.mk n8_.out.symm; clear BK1434; clear BK1435; clear HB; have BK1434 := n0_; have BK1435 := n1_; have HB := n2_; have BK1440 := n3_; have GW1440 := n4_; have GE1440 := n5_; have NB1434_1440 := n6_; have NB1440_1434 := n7_; have NB1435_1440 := n8_; have NB1440_1435 := n9_; clear n0_ n1_ n2_ n3_ n4_ n5_ n6_ n7_ n8_ n9_; clear hb hbox hg) | ((with_reducible refine zQ (N := 4) rfl ?_); refine zN ?hg (N := 4) ?hd (cs := #[.int .i64 0, .int .i64 0]) (t := 38) ?hr ?_; (case hd => rfl); (case hg => rfl); (case hr => first | (go_simp; done) | (go_simp; rfl)); intro gb1441 hg w10 hbox hb; have n0_ := zC.mk (zK (g := gb1434) (o := .cells #[.int .i64 a0_0, .int .i64 a0_1, .int .i64 a0_2, .int .i64 a0_3, .slice A0_4 l0_4.length c0_4] 30 (0, 0)) (by (with_reducible repeat (first | refine zD ?_ _ | refine zG ?_ | refine zE ?_ _)); exact BK1434.out) hb); have n1_ := zC.mk (zK (g := gb1435) (o := .cells #[.int .i64 0, .int .i64 0, .int .i64 0] 28 (0, 0)) (by (with_reducible repeat (first | refine zD ?_ _ | refine zG ?_ | refine zE ?_ _)); exact BK1435.out) hb); have n2_ := zC.mk (zK (g := gb1440) (o := .cells #[.int .i64 0, .int .i64 0] 38 (0, 0)) (by (with_reducible repeat (first | refine zD ?_ _ | refine zG ?_ | refine zE ?_ _)); exact BK1440.out) hb); have n3_ := zC.mk (zL (by repeat (first | (with_reducible first | exact HB.out | apply zI | apply zB | apply zF | refine zH ?_ GE1434.out | refine zH ?_ GE1435.out | refine zH ?_ GE1440.out) | exact HB.out)) hb); have n4_ := zC.mk (hbox); have n5_ := zC.mk ((by rw [hg]; exact (zM (by repeat (first | (with_reducible first | exact HB.out | apply zI | apply zB | apply zF | refine zH ?_ GE1434.out | refine zH ?_ GE1435.out | refine zH ?_ GE1440.out) | exact HB.out))) : w.heap.size ≤ gb1441)); have n6_ := n5_; have n7_ := zC.mk ((by rw [hg]; exact Nat.ne_of_lt (zX (by (with_reducible repeat (first | refine zD ?_ _ | refine zG ?_ | refine zE ?_ _)); exact BK1434.out)) : gb1434 ≠ gb1441)); have n8_ := zC.mk n7_.out.symm; have n9_ := zC.mk ((by rw [hg]; exact Nat.ne_of_lt (zX (by (with_reducible repeat (first | refine zD ?_ _ | refine zG ?_ | refine zE ?_ _)); exact BK1435.out)) : gb1435 ≠ gb1441)); have n10_ := zC.mk n9_.out.symm; have n11_ := zC.mk ((by rw [hg]; exact Nat.ne_of_lt (zX (by (with_reducible repeat (first | refine zD ?_ _ | refine zG ?_ | refine zE ?_ _)); exact BK1440.out)) : gb1440 ≠ gb1441)); have n12_ := zC.mk n11_.out.symm; clear BK1434; clear BK1435; clear BK1440; clear HB; have BK1434 := n0_; have BK1435 := n1_; have BK1440 := n2_; have HB := n3_; have BK1441 := n4_; have GW1441 := n5_; have GE1441 := n6_; have NB1434_1441 := n7_; have NB1441_1434 := n8_; have NB1435_1441 := n9_; have NB1441_1435 := n10_; have NB1440_1441 := n11_; have NB1441_1440 := n12_; clear n0_ n1_ n2_ n3_ n4_ n5_ n6_ n7_ n8_ n9_ n10_ n11_ n12_; clear hb hbox hg; have hnb11 := NB1440_1434.out; have hnc11 := NB1434_1440.out; have hnb12 := NB1440_1435.out; have hnc12 := NB1435_1440.out; have hnb13 := NB1440_1441.out; have hnc13 := NB1441_1440.out; have hcz14_0 : w10.cell? ⟨gb1440, 0, none⟩ = some (.int .i64 0) := (zA BK1440.out 0).trans rfl; have hcz14_1 : w10.cell? ⟨gb1440, 1, none⟩ = some (.int .i64 0) := (zA BK1440.out 1).trans rfl; have hfz14_0 := zJ BK1440.out 0; have hfz14_1 := zJ BK1440.out 1; have hnb15 := NB1441_1434.out; have hnc15 := NB1434_1441.out; have hnb16 := NB1441_1435.out; have hnc16 := NB1435_1441.out; have hcz17_0 : w10.cell? ⟨gb1441, 0, none⟩ = some (.int .i64 0) := (zA BK1441.out 0).trans rfl; have hcz17_1 : w10.cell? ⟨gb1441, 1, none⟩ = some (.int .i64 0) := (zA BK1441.out 1).trans rfl; have hfz17_0 := zJ BK1441.out 0; have hfz17_1 := zJ BK1441.out 1) | ((with_reducible refine zQ (N := 16) rfl ?_); refine Kd.R_lit k38 _ 38 ?hg (N := 16) ?hd (xs := ([(⟨t1436, t1437⟩ : S38), (⟨t1438, t1439⟩ : S38)] : List (S38))) (inner := [.int .i64 t1436, .int .i64 t1437, .int .i64 t1438, .int .i64 t1439]) (ok := fun _ => True) (okp := fun _ => True) ?hr ?hp (fun _ hk => hk) trivial (Below.refl _ _) (Nat.le_refl _) (by simp) ?_; (case hd => rfl); (case hg => rfl); (case hr => first | (go_simp; done) | (go_simp; rfl)); (case hp => exact (Reps.c2 (show Kd.M k38 _ _ _ (⟨t1436, t1437⟩ : S38) [.int .i64 t1436, .int .i64 t1437] from (k38_mkM _ _ _ (⟨t1436, t1437⟩ : S38) )) (Reps.c2 (show Kd.M k38 _ _ _ (⟨t1438, t1439⟩ : S38) [.int .i64 t1438, .int .i64 t1439] from (k38_mkM _ _ _ (⟨t1438, t1439⟩ : S38) )) (Reps.none _ _)))); intro v1443 w18 ho19 hb hg_ hnew_; clear hg_ hnew_; (first | rw [← Ny1442.out] at ho19 | (simp only [Int.reduceToNat] at ho19; rw [← Ny1442.out] at ho19)); have n0_ := zC.mk (Kd.R_lower (Kd.R_newB (Kd.R_newB ho19 (g := gb1440) (o := .cells #[.int .i64 t1436, .int .i64 t1437] 38 (0, 0)) (by (with_reducible repeat (first | refine zD ?_ _ | refine zG ?_ | refine zE ?_ _)); refine zV ?_ NB1440_1441.out _; (with_reducible repeat (first | refine zD ?_ _ | refine zG ?_ | refine zE ?_ _)); refine zV ?_ NB1440_1441.out _; (with_reducible repeat (first | refine zD ?_ _ | refine zG ?_ | refine zE ?_ _)); refine zS (cs := #[.int .i64 t1436, .int .i64 0]) ?_ 1 _ rfl; (with_reducible repeat (first | refine zD ?_ _ | refine zG ?_ | refine zE ?_ _)); refine zS (cs := #[.int .i64 0, .int .i64 0]) ?_ 0 _ rfl; (with_reducible repeat (first | refine zD ?_ _ | refine zG ?_ | refine zE ?_ _)); exact BK1440.out)) (g := gb1441) (o := .cells #[.int .i64 t1438, .int .i64 t1439] 38 (0, 0)) (by (with_reducible repeat (first | refine zD ?_ _ | refine zG ?_ | refine zE ?_ _)); refine zS (cs := #[.int .i64 t1438, .int .i64 0]) ?_ 1 _ rfl; (with_reducible repeat (first | refine zD ?_ _ | refine zG ?_ | refine zE ?_ _)); refine zS (cs := #[.int .i64 0, .int .i64 0]) ?_ 0 _ rfl; (with_reducible repeat (first | refine zD ?_ _ | refine zG ?_ | refine zE ?_ _)); refine zV ?_ NB1441_1440.out _; (with_reducible repeat (first | refine zD ?_ _ | refine zG ?_ | refine zE ?_ _)); refine zV ?_ NB1441_1440.out _; (with_reducible repeat (first | refine zD ?_ _ | refine zG ?_ | refine zE ?_ _)); exact BK1441.out)) (zM (by repeat (first | (with_reducible first | exact HB.out | apply zI | apply zB | apply zF | refine zH ?_ GE1434.out | refine zH ?_ GE1435.out | refine zH ?_ GE1440.out | refine zH ?_ GE1441.out) | exact HB.out)))); have n1_ := zC.mk (zK (g := gb1434) (o := .cells #[.int .i64 a0_0, .int .i64 a0_1, .int .i64 a0_2, .int .i64 a0_3, .slice A0_4 l0_4.length c0_4] 30 (0, 0)) (by (with_reducible repeat (first | refine zD ?_ _ | refine zG ?_ | refine zE ?_ _)); refine zV ?_ NB1434_1441.out _; (with_reducible repeat (first | refine zD ?_ _ | refine zG ?_ | refine zE ?_ _)); refine zV ?_ NB1434_1441.out _; (with_reducible repeat (first | refine zD ?_ _ | refine zG ?_ | refine zE ?_ _)); refine zV ?_ NB1434_1440.out _; (with_reducible repeat (first | refine zD ?_ _ | refine zG ?_ | refine zE ?_ _)); refine zV ?_ NB1434_1440.out _; (with_reducible repeat (first | refine zD ?_ _ | refine zG ?_ | refine zE ?_ _)); exact BK1434.out) hb); have n2_ := zC.mk (zK (g := gb1435) (o := .cells #[.int .i64 0, .int .i64 0, .int .i64 0] 28 (0, 0)) (by (with_reducible repeat (first | refine zD ?_ _ | refine zG ?_ | refine zE ?_ _)); refine zV ?_ NB1435_1441.out _; (with_reducible repeat (first | refine zD ?_ _ | refine zG ?_ | refine zE ?_ _)); refine zV ?_ NB1435_1441.out _; (with_reducible repeat (first | refine zD ?_ _ | refine zG ?_ | refine zE ?_ _)); refine zV ?_ NB1435_1440.out _; (with_reducible repeat (first | refine zD ?_ _ | refine zG ?_ | refine zE ?_ _)); refine zV ?_ NB1435_1440.out _; (with_reducible repeat (first | refine zD ?_ _ | refine zG ?_ | refine zE ?_ _)); exact BK1435.out) hb); have n3_ := zC.mk (zK (g := gb1440) (o := .cells #[.int .i64 t1436, .int .i64 t1437] 38 (0, 0)) (by (with_reducible repeat (first | refine zD ?_ _ | refine zG ?_ | refine zE ?_ _)); refine zV ?_ NB1440_1441.out _; (with_reducible repeat (first | refine zD ?_ _ | refine zG ?_ | refine zE ?_ _)); refine zV ?_ NB1440_1441.out _; (with_reducible repeat (first | refine zD ?_ _ | refine zG ?_ | refine zE ?_ _)); refine zS (cs := #[.int .i64 t1436, .int .i64 0]) ?_ 1 _ rfl; (with_reducible repeat (first | refine zD ?_ _ | refine zG ?_ | refine zE ?_ _)); refine zS (cs := #[.int .i64 0, .int .i64 0]) ?_ 0 _ rfl; (with_reducible repeat (first | refine zD ?_ _ | refine zG ?_ | refine zE ?_ _)); exact BK1440.out) hb); have n4_ := zC.mk (zK (g := gb1441) (o := .cells #[.int .i64 t1438, .int .i64 t1439] 38 (0, 0)) (by (with_reducible repeat (first | refine zD ?_ _ | refine zG ?_ | refine zE ?_ _)); refine zS (cs := #[.int .i64 t1438, .int .i64 0]) ?_ 1 _ rfl; (with_reducible repeat (first | refine zD ?_ _ | refine zG ?_ | refine zE ?_ _)); refine zS (cs := #[.int .i64 0, .int .i64 0]) ?_ 0 _ rfl; (with_reducible repeat (first | refine zD ?_ _ | refine zG ?_ | refine zE ?_ _)); refine zV ?_ NB1441_1440.out _; (with_reducible repeat (first | refine zD ?_ _ | refine zG ?_ | refine zE ?_ _)); refine zV ?_ NB1441_1440.out _; (with_reducible repeat (first | refine zD ?_ _ | refine zG ?_ | refine zE ?_ _)); exact BK1441.out) hb); have n5_ := zC.mk (zL (by repeat (first | (with_reducible first | exact HB.out | apply zI | apply zB | apply zF | refine zH ?_ GE1434.out | refine zH ?_ GE1435.out | refine zH ?_ GE1440.out | refine zH ?_ GE1441.out) | exact HB.out)) hb); clear BK1434; clear BK1435; clear BK1440; clear BK1441; clear HB; have HO1444 := n0_; have BK1434 := n1_; have BK1435 := n2_; have BK1440 := n3_; have BK1441 := n4_; have HB := n5_; clear n0_ n1_ n2_ n3_ n4_ n5_; clear hb ho19; have hcz20_0 : w18.cell? ⟨gb1434, 0, none⟩ = some (.int .i64 a0_0) := (zA BK1434.out 0).trans rfl; have hcz20_1 : w18.cell? ⟨gb1434, 1, none⟩ = some (.int .i64 a0_1) := (zA BK1434.out 1).trans rfl; have hcz20_2 : w18.cell? ⟨gb1434, 2, none⟩ = some (.int .i64 a0_2) := (zA BK1434.out 2).trans rfl; have hcz20_3 : w18.cell? ⟨gb1434, 3, none⟩ = some (.int .i64 a0_3) := (zA BK1434.out 3).trans rfl; have hcz20_4 : w18.cell? ⟨gb1434, 4, none⟩ = some (.slice A0_4 l0_4.length c0_4) := (zA BK1434.out 4).trans rfl; have hfz20_0 := zJ BK1434.out 0; have hfz20_1 := zJ BK1434.out 1; have hfz20_2 := zJ BK1434.out 2; have hfz20_3 := zJ BK1434.out 3; have hfz20_4 := zJ BK1434.out 4) | ((with_reducible refine zR (f := 66) rfl ?_); refine zZ (some 19) rfl rfl Try.func66 (by kernel_rfl) rfl #[.agg #[.int .i64 a0_1, .int .i64 a0_2, .int .i64 a0_3]] rfl (by (try simp only [List.map_toArray, List.map_cons, List.map_nil]); first | done | rfl | (simp only [List.length_drop, List.length_take]; rfl)) ?_; (with_reducible refine (impl_Lattice_cells.calls k a0_1 a0_2 a0_3 t1445 _ A3.out).mono ?_); rintro e w21 ⟨v1446, rfl, ho0, hb⟩; refine ⟨_, rfl, ?_⟩; have n0_ := zC.mk (Kd.R_elder' (by (with_reducible repeat (first | apply Kd.R_alloc | apply Kd.R_drewN | apply Kd.R_drew)); exact HO1444.out) (Kd.R_base ho0) hb); have n1_ := zC.mk (Kd.R_lower (Kd.R_newB (Kd.R_newB (Kd.R_new' ho0 (Kd.R_lt (by (with_reducible repeat (first | apply Kd.R_alloc | apply Kd.R_drewN | apply Kd.R_drew)); exact HO1444.out))) (g := gb1440) (o := .cells #[.int .i64 t1436, .int .i64 t1437] 38 (0, 0)) (by (with_reducible repeat (first | refine zD ?_ _ | refine zG ?_ | refine zE ?_ _)); exact BK1440.out)) (g := gb1441) (o := .cells #[.int .i64 t1438, .int .i64 t1439] 38 (0, 0)) (by (with_reducible repeat (first | refine zD ?_ _ | refine zG ?_ | refine zE ?_ _)); exact BK1441.out)) (zM (by repeat (first | (with_reducible first | exact HB.out | apply zI | apply zB | apply zF | refine zH ?_ GE1434.out | refine zH ?_ GE1435.out | refine zH ?_ GE1440.out | refine zH ?_ GE1441.out) | exact HB.out)))); have n2_ := zC.mk (zK (g := gb1434) (o := .cells #[.int .i64 a0_0, .int .i64 a0_1, .int .i64 a0_2, .int .i64 a0_3, .slice A0_4 l0_4.length c0_4] 30 (0, 0)) (by (with_reducible repeat (first | refine zD ?_ _ | refine zG ?_ | refine zE ?_ _)); exact BK1434.out) hb); have n3_ := zC.mk (zK (g := gb1435) (o := .cells #[.int .i64 0, .int .i64 0, .int .i64 0] 28 (0, 0)) (by (with_reducible repeat (first | refine zD ?_ _ | refine zG ?_ | refine zE ?_ _)); exact BK1435.out) hb); have n4_ := zC.mk (zK (g := gb1440) (o := .cells #[.int .i64 t1436, .int .i64 t1437] 38 (0, 0)) (by (with_reducible repeat (first | refine zD ?_ _ | refine zG ?_ | refine zE ?_ _)); exact BK1440.out) hb); have n5_ := zC.mk (zK (g := gb1441) (o := .cells #[.int .i64 t1438, .int .i64 t1439] 38 (0, 0)) (by (with_reducible repeat (first | refine zD ?_ _ | refine zG ?_ | refine zE ?_ _)); exact BK1441.out) hb); have n6_ := zC.mk (zL (by repeat (first | (with_reducible first | exact HB.out | apply zI | apply zB | apply zF | refine zH ?_ GE1434.out | refine zH ?_ GE1435.out | refine zH ?_ GE1440.out | refine zH ?_ GE1441.out) | exact HB.out)) hb); clear HO1444; clear BK1434; clear BK1435; clear BK1440; clear BK1441; clear HB; have HO1444 := n0_; have HO1447 := n1_; have BK1434 := n2_; have BK1435 := n3_; have BK1440 := n4_; have BK1441 := n5_; have HB := n6_; clear n0_ n1_ n2_ n3_ n4_ n5_ n6_; (try clear hb); (try clear hb2); (try clear hk); (try clear hi); (try clear ho0); obtain ⟨Ao22, co22, eo22⟩ := Kd.R_slice HO1447.out; subst eo22))
 go_loopg [5, 21] k (fun kq v5 v21 w' => ∃ (x5_1 : List (S38)) (x21_1 : Int), v21 = .int .i64 x21_1 ∧ zC (impl_Pattern_fullLattice.l0 kq x5_1 t1445 (t1445.length : Int) x21_1 a0_0 a0_1 a0_2 a0_3 l0_4 = some (r1, r2, r3)) ∧ zC (kq ≤ k) ∧ zC (Kd.R k38 38 w' w.heap.size (fun k_ => some k_ ≠ ((.slice Ao22 t1445.length co22) : Value).ownBlock ∧ k_ ≠ gb1440 ∧ k_ ≠ gb1441) v5 x5_1) ∧ zC (Kd.R k38 38 w' w.heap.size (fun k_ => some k_ ≠ (v5 : Value).ownBlock ∧ k_ ≠ gb1440 ∧ k_ ≠ gb1441) (.slice Ao22 t1445.length co22) t1445) ∧ zC (w'.heap[gb1434]? = some (.cells #[.int .i64 a0_0, .int .i64 a0_1, .int .i64 a0_2, .int .i64 a0_3, (.slice A0_4 l0_4.length c0_4)] 30 (0, 0))) ∧ zC (w'.heap[gb1435]? = some (.cells #[.int .i64 0, .int .i64 0, .int .i64 0] 28 (0, 0))) ∧ zC (w'.heap[gb1440]? = some (.cells #[.int .i64 t1436, .int .i64 t1437] 38 (0, 0))) ∧ zC (w'.heap[gb1441]? = some (.cells #[.int .i64 t1438, .int .i64 t1439] 38 (0, 0))) ∧ zC (Below w.heap.size w w'))
 case atStart => exact ⟨(y1442), (0), (by first | rfl | (simp; done) | (simp [*]; done)), H', ⟨Nat.le_refl _⟩, ⟨by (with_reducible repeat (first | apply Kd.R_alloc | apply Kd.R_drewN | apply Kd.R_drew)); exact Kd.R_mono HO1444.out (fun _ hk => ⟨hk.2, ⟨hk.1.1.2, hk.1.2⟩⟩)⟩, ⟨by (with_reducible repeat (first | apply Kd.R_alloc | apply Kd.R_drewN | apply Kd.R_drew)); exact Kd.R_mono HO1447.out (fun _ hk => ⟨hk.1.1.2, ⟨hk.1.2, hk.2⟩⟩)⟩, ⟨by (with_reducible repeat (first | refine zD ?_ _ | refine zG ?_ | refine zE ?_ _)); exact BK1434.out⟩, ⟨by (with_reducible repeat (first | refine zD ?_ _ | refine zG ?_ | refine zE ?_ _)); exact BK1435.out⟩, ⟨by (with_reducible repeat (first | refine zD ?_ _ | refine zG ?_ | refine zE ?_ _)); exact BK1440.out⟩, ⟨by (with_reducible repeat (first | refine zD ?_ _ | refine zG ?_ | refine zE ?_ _)); exact BK1441.out⟩, ⟨by repeat (first | (with_reducible first | exact HB.out | apply zI | apply zB | apply zF | refine zH ?_ GE1434.out | refine zH ?_ GE1435.out | refine zH ?_ GE1440.out | refine zH ?_ GE1441.out) | exact HB.out)⟩⟩
 case round =>
  clear H'
  try clear c1
  try clear c2
  try clear p2
  try clear c6
  try clear c11
  try clear c12
  try clear c13
  try clear c14
  try clear c15
  try clear c16
  try clear hcz14_0
  try clear hcz14_1
  try clear hcz17_0
  try clear hcz17_1
  try clear hcz20_0
  try clear hcz20_1
  try clear hcz20_2
  try clear hcz20_3
  try clear hcz20_4
  try clear hcz7_0
  try clear hcz7_1
  try clear hcz7_2
  try clear hcz7_3
  try clear hcz7_4
  try clear hfz14_0
  try clear hfz14_1
  try clear hfz17_0
  try clear hfz17_1
  try clear hfz20_0
  try clear hfz20_1
  try clear hfz20_2
  try clear hfz20_3
  try clear hfz20_4
  try clear hfz7_0
  try clear hfz7_1
  try clear hfz7_2
  try clear hfz7_3
  try clear hfz7_4
  obtain ⟨x5_1, x21_1, rfl, HA, HK1, HO_5, HO_19, BK1434, BK1435, BK1440, BK1441, HB⟩ := hrel
  cases gk with
  | zero => exact absurd HA.out (by simp [impl_Pattern_fullLattice.l0])
  | succ k1 =>
   have H := HA.out
   clear HA
   simp only [impl_Pattern_fullLattice.l0] at H
   by_cases c23 : x21_1 < (t1445.length : Int)
   ·
    rw [if_pos c23] at H
    have c23b0 : decide (x21_1 < (t1445.length : Int)) = true := decide_eq_true c23
    clear c23
    by_cases c24 : 0 ≤ x21_1
    ·
     rw [if_pos c24] at H
     have c24b0 : decide (0 ≤ x21_1) = true := decide_eq_true c24
     clear c24
     by_cases c25 : x21_1 < (t1445.length : Int)
     ·
      rw [if_pos c25] at H
      have c25b0 : decide (x21_1 < (t1445.length : Int)) = true := decide_eq_true c25
      clear c25
      replace H := Option.bind_eq_some_iff.mp H
      obtain ⟨⟨t1453, t1454, t1455, t1456⟩, A260, H⟩ := H
      replace H : ((impl_Pattern_keeps.f k1 a0_0 a0_1 a0_2 a0_3 l0_4 t1453 t1454 t1455 t1456 ((rd_T38 t1445 x21_1).f0) ((rd_T38 t1445 x21_1).f1)).bind fun t1457 => (if t1457 = true then (if x5_1.length < 8796093022208 then (impl_Pattern_fullLattice.l0 k1 (x5_1 ++ [(⟨(rd_T38 t1445 x21_1).f0, (rd_T38 t1445 x21_1).f1⟩ : S38)]) t1445 (t1445.length : Int) (wrap64 (x21_1 + 1)) a0_0 a0_1 a0_2 a0_3 l0_4) else (none)) else (impl_Pattern_fullLattice.l0 k1 x5_1 t1445 (t1445.length : Int) (wrap64 (x21_1 + 1)) a0_0 a0_1 a0_2 a0_3 l0_4))) = some (r1, r2, r3) := H
      have A26 := zC.mk A260
      clear A260
      replace H := Option.bind_eq_some_iff.mp H
      obtain ⟨t1457, A270, H⟩ := H
      replace H : (if t1457 = true then (if x5_1.length < 8796093022208 then (impl_Pattern_fullLattice.l0 k1 (x5_1 ++ [(⟨(rd_T38 t1445 x21_1).f0, (rd_T38 t1445 x21_1).f1⟩ : S38)]) t1445 (t1445.length : Int) (wrap64 (x21_1 + 1)) a0_0 a0_1 a0_2 a0_3 l0_4) else (none)) else (impl_Pattern_fullLattice.l0 k1 x5_1 t1445 (t1445.length : Int) (wrap64 (x21_1 + 1)) a0_0 a0_1 a0_2 a0_3 l0_4)) = some (r1, r2, r3) := H
      have A27 := zC.mk A270
      clear A270
      by_cases c28 : t1457 = true
      ·
       subst c28
       have H1 : (if x5_1.length < 8796093022208 then (impl_Pattern_fullLattice.l0 k1 (x5_1 ++ [(⟨(rd_T38 t1445 x21_1).f0, (rd_T38 t1445 x21_1).f1⟩ : S38)]) t1445 (t1445.length : Int) (wrap64 (x21_1 + 1)) a0_0 a0_1 a0_2 a0_3 l0_4) else (none)) = some (r1, r2, r3) := by rw [if_pos rfl] at H; exact H
       clear H
       have H := H1
       clear H1
       by_cases c29 : x5_1.length < 8796093022208
       ·
        rw [if_pos c29] at H
        have LMc29 := zC.mk c29
        clear c29
        obtain ⟨y1458, hy1458⟩ : ∃ y_ : List (S38), y_ = (x5_1 ++ [(⟨(rd_T38 t1445 x21_1).f0, (rd_T38 t1445 x21_1).f1⟩ : S38)]) := ⟨_, rfl⟩
        replace H : (impl_Pattern_fullLattice.l0 k1 y1458 t1445 (t1445.length : Int) (wrap64 (x21_1 + 1)) a0_0 a0_1 a0_2 a0_3 l0_4) = some (r1, r2, r3) := by first | (rw [hy1458]; with_reducible exact H) | (have H2_ := (Option.bind_some _ _).symm.trans H; rw [hy1458]; with_reducible exact H2_) | (have H2_ := (Option.bind_some _ _).symm.trans H; with_reducible exact H2_) | with_reducible exact H | (rw [hy1458]; exact H) | exact H
        have Ny1458 := zC.mk hy1458
        clear hy1458
        have H' := zC.mk H
        clear H
        have p1451 : 0 ≤ (x21_1 : Int) := of_decide_eq_true (by first | (with_reducible assumption) | assumption)
        have q1451 : x21_1 < (t1445.length : Int) := of_decide_eq_true (by first | (with_reducible assumption) | assumption)
        obtain ⟨ad1451, e1451, hx1451_0, hx1451_1⟩ := at_T38 (Kd.R_reads' HO_19.out).2.2 x21_1 p1451 q1451
        cases e1451
        replace p1451 := eq_true p1451
        replace q1451 := eq_true q1451
        try go_wp2_with (first | ((with_reducible refine zQ (N := 7) rfl ?_); refine zN ?hg (N := 7) ?hd (cs := #[.int .i64 0, .int .i64 0]) (t := 38) ?hr ?_; (case hd => rfl); (case hg => rfl); (case hr => first | (go_simp; done) | (go_simp; rfl)); intro gb1452 hg w30 hbox hb; have n0_ := zC.mk (Kd.R_below (Kd.R_elderB (by (with_reducible repeat (first | apply Kd.R_alloc | apply Kd.R_drewN | apply Kd.R_drew)); exact HO_5.out) gb1452 (Nat.le_of_eq hg.symm)) hb); have n1_ := zC.mk (Kd.R_below (Kd.R_elderB (by (with_reducible repeat (first | apply Kd.R_alloc | apply Kd.R_drewN | apply Kd.R_drew)); exact HO_19.out) gb1452 (Nat.le_of_eq hg.symm)) hb); have n2_ := zC.mk (zK (g := gb1434) (o := .cells #[.int .i64 a0_0, .int .i64 a0_1, .int .i64 a0_2, .int .i64 a0_3, .slice A0_4 l0_4.length c0_4] 30 (0, 0)) (by (with_reducible repeat (first | refine zD ?_ _ | refine zG ?_ | refine zE ?_ _)); exact BK1434.out) hb); have n3_ := zC.mk (zK (g := gb1435) (o := .cells #[.int .i64 0, .int .i64 0, .int .i64 0] 28 (0, 0)) (by (with_reducible repeat (first | refine zD ?_ _ | refine zG ?_ | refine zE ?_ _)); exact BK1435.out) hb); have n4_ := zC.mk (zK (g := gb1440) (o := .cells #[.int .i64 t1436, .int .i64 t1437] 38 (0, 0)) (by (with_reducible repeat (first | refine zD ?_ _ | refine zG ?_ | refine zE ?_ _)); exact BK1440.out) hb); have n5_ := zC.mk (zK (g := gb1441) (o := .cells #[.int .i64 t1438, .int .i64 t1439] 38 (0, 0)) (by (with_reducible repeat (first | refine zD ?_ _ | refine zG ?_ | refine zE ?_ _)); exact BK1441.out) hb); have n6_ := zC.mk (zL (by repeat (first | (with_reducible first | exact HB.out | apply zI | apply zB | apply zF | refine zH ?_ GE1434.out | refine zH ?_ GE1435.out | refine zH ?_ GE1440.out | refine zH ?_ GE1441.out) | exact HB.out)) hb); have n7_ := zC.mk (hbox); have n8_ := zC.mk ((by rw [hg]; exact (zM (by repeat (first | (with_reducible first | exact HB.out | apply zI | apply zB | apply zF | refine zH ?_ GE1434.out | refine zH ?_ GE1435.out | refine zH ?_ GE1440.out | refine zH ?_ GE1441.out) | exact HB.out))) : w.heap.size ≤ gb1452)); have n9_ := n8_; have n10_ := zC.mk ((by rw [hg]; exact Nat.ne_of_lt (zX (by (with_reducible repeat (first | refine zD ?_ _ | refine zG ?_ | refine zE ?_ _)); exact BK1434.out)) : gb1434 ≠ gb1452)); have n11_ := zC.mk n10_.out.symm; have n12_ := zC.mk ((by rw [hg]; exact Nat.ne_of_lt (zX (by (with_reducible repeat (first | refine zD ?_ _ | refine zG ?_ | refine zE ?_ _)); exact BK1435.out)) : gb1435 ≠ gb1452)); have n13_ := zC.mk n12_.out.symm; have n14_ := zC.mk ((by rw [hg]; exact Nat.ne_of_lt (zX (by (with_reducible repeat (first | refine zD ?_ _ | refine zG ?_ | refine zE ?_ _)); exact BK1440.out)) : gb1440 ≠ gb1452)); have n15_ := zC.mk n14_.out.symm; have n16_ := zC.mk ((by rw [hg]; exact Nat.ne_of_lt (zX (by (with_reducible repeat (first | refine zD ?_ _ | refine zG ?_ | refine zE ?_ _)); exact BK1441.out)) : gb1441 ≠ gb1452)); have n17_ := zC.mk n16_.out.symm; clear HO_5; clear HO_19; clear BK1434; clear BK1435; clear BK1440; clear BK1441; clear HB; have HO_5 := n0_; have HO_19 := n1_; have BK1434 := n2_; have BK1435 := n3_; have BK1440 := n4_; have BK1441 := n5_; have HB := n6_; have BK1452 := n7_; have GW1452 := n8_; have GE1452 := n9_; have NB1434_1452 := n10_; have NB1452_1434 := n11_; have NB1435_1452 := n12_; have NB1452_1435 := n13_; have NB1440_1452 := n14_; have NB1452_1440 := n15_; have NB1441_1452 := n16_; have NB1452_1441 := n17_; clear n0_ n1_ n2_ n3_ n4_ n5_ n6_ n7_ n8_ n9_ n10_ n11_ n12_ n13_ n14_ n15_ n16_ n17_; clear hb hbox hg; have hnb31 := NB1452_1434.out; have hnc31 := NB1434_1452.out; have hnb32 := NB1452_1435.out; have hnc32 := NB1435_1452.out; have hnb33 := NB1452_1440.out; have hnc33 := NB1440_1452.out; have hnb34 := NB1452_1441.out; have hnc34 := NB1441_1452.out; have hcz35_0 : w30.cell? ⟨gb1452, 0, none⟩ = some (.int .i64 0) := (zA BK1452.out 0).trans rfl; have hcz35_1 : w30.cell? ⟨gb1452, 1, none⟩ = some (.int .i64 0) := (zA BK1452.out 1).trans rfl; have hfz35_0 := zJ BK1452.out 0; have hfz35_1 := zJ BK1452.out 1))
        have n0_ : zC (Kd.R k38 38 ((w30.setCell ⟨gb1452, 0, none⟩ (.int .i64 ((rd_T38 t1445 x21_1).f0))).setCell ⟨gb1452, 1, none⟩ (.int .i64 ((rd_T38 t1445 x21_1).f1))) w.heap.size (fun k_ => some k_ ≠ (.slice (some ad1451) t1445.length co22 : Value).ownBlock ∧ k_ ≠ gb1440 ∧ k_ ≠ gb1441 ∧ k_ ≠ gb1452) u5 x5_1) := ⟨by (with_reducible repeat (first | apply Kd.R_alloc | apply Kd.R_drewN | apply Kd.R_drew)); exact Kd.R_mono (Kd.R_far (p := ⟨gb1452, 1, none⟩) (Kd.R_far (p := ⟨gb1452, 0, none⟩) (Kd.R_mono HO_5.out (fun k_ hk => (⟨hk, hk.2⟩ : _ ∧ k_ ≠ gb1452))) (fun _ hk => hk.2) (.int .i64 ((rd_T38 t1445 x21_1).f0))) (fun _ hk => hk.2) (.int .i64 ((rd_T38 t1445 x21_1).f1))) (fun _ hk => ⟨hk.1.1.1, ⟨hk.1.1.2.1, ⟨hk.1.1.2.2, hk.1.2⟩⟩⟩)⟩
        have n1_ : zC (Kd.R k38 38 ((w30.setCell ⟨gb1452, 0, none⟩ (.int .i64 ((rd_T38 t1445 x21_1).f0))).setCell ⟨gb1452, 1, none⟩ (.int .i64 ((rd_T38 t1445 x21_1).f1))) w.heap.size (fun k_ => some k_ ≠ (u5 : Value).ownBlock ∧ k_ ≠ gb1440 ∧ k_ ≠ gb1441 ∧ k_ ≠ gb1452) (.slice (some ad1451) t1445.length co22) t1445) := ⟨by (with_reducible repeat (first | apply Kd.R_alloc | apply Kd.R_drewN | apply Kd.R_drew)); exact Kd.R_mono (Kd.R_far (p := ⟨gb1452, 1, none⟩) (Kd.R_far (p := ⟨gb1452, 0, none⟩) (Kd.R_mono HO_19.out (fun k_ hk => (⟨hk, hk.2⟩ : _ ∧ k_ ≠ gb1452))) (fun _ hk => hk.2) (.int .i64 ((rd_T38 t1445 x21_1).f0))) (fun _ hk => hk.2) (.int .i64 ((rd_T38 t1445 x21_1).f1))) (fun _ hk => ⟨hk.1.1.1, ⟨hk.1.1.2.1, ⟨hk.1.1.2.2, hk.1.2⟩⟩⟩)⟩
        have n2_ : zC (((w30.setCell ⟨gb1452, 0, none⟩ (.int .i64 ((rd_T38 t1445 x21_1).f0))).setCell ⟨gb1452, 1, none⟩ (.int .i64 ((rd_T38 t1445 x21_1).f1))).heap[gb1434]? = some (.cells #[.int .i64 a0_0, .int .i64 a0_1, .int .i64 a0_2, .int .i64 a0_3, .slice A0_4 l0_4.length c0_4] 30 (0, 0))) := ⟨by (with_reducible repeat (first | refine zD ?_ _ | refine zG ?_ | refine zE ?_ _)); refine zV ?_ NB1434_1452.out _; (with_reducible repeat (first | refine zD ?_ _ | refine zG ?_ | refine zE ?_ _)); refine zV ?_ NB1434_1452.out _; (with_reducible repeat (first | refine zD ?_ _ | refine zG ?_ | refine zE ?_ _)); exact BK1434.out⟩
        have n3_ : zC (((w30.setCell ⟨gb1452, 0, none⟩ (.int .i64 ((rd_T38 t1445 x21_1).f0))).setCell ⟨gb1452, 1, none⟩ (.int .i64 ((rd_T38 t1445 x21_1).f1))).heap[gb1435]? = some (.cells #[.int .i64 0, .int .i64 0, .int .i64 0] 28 (0, 0))) := ⟨by (with_reducible repeat (first | refine zD ?_ _ | refine zG ?_ | refine zE ?_ _)); refine zV ?_ NB1435_1452.out _; (with_reducible repeat (first | refine zD ?_ _ | refine zG ?_ | refine zE ?_ _)); refine zV ?_ NB1435_1452.out _; (with_reducible repeat (first | refine zD ?_ _ | refine zG ?_ | refine zE ?_ _)); exact BK1435.out⟩
        have n4_ : zC (((w30.setCell ⟨gb1452, 0, none⟩ (.int .i64 ((rd_T38 t1445 x21_1).f0))).setCell ⟨gb1452, 1, none⟩ (.int .i64 ((rd_T38 t1445 x21_1).f1))).heap[gb1440]? = some (.cells #[.int .i64 t1436, .int .i64 t1437] 38 (0, 0))) := ⟨by (with_reducible repeat (first | refine zD ?_ _ | refine zG ?_ | refine zE ?_ _)); refine zV ?_ NB1440_1452.out _; (with_reducible repeat (first | refine zD ?_ _ | refine zG ?_ | refine zE ?_ _)); refine zV ?_ NB1440_1452.out _; (with_reducible repeat (first | refine zD ?_ _ | refine zG ?_ | refine zE ?_ _)); exact BK1440.out⟩
        have n5_ : zC (((w30.setCell ⟨gb1452, 0, none⟩ (.int .i64 ((rd_T38 t1445 x21_1).f0))).setCell ⟨gb1452, 1, none⟩ (.int .i64 ((rd_T38 t1445 x21_1).f1))).heap[gb1441]? = some (.cells #[.int .i64 t1438, .int .i64 t1439] 38 (0, 0))) := ⟨by (with_reducible repeat (first | refine zD ?_ _ | refine zG ?_ | refine zE ?_ _)); refine zV ?_ NB1441_1452.out _; (with_reducible repeat (first | refine zD ?_ _ | refine zG ?_ | refine zE ?_ _)); refine zV ?_ NB1441_1452.out _; (with_reducible repeat (first | refine zD ?_ _ | refine zG ?_ | refine zE ?_ _)); exact BK1441.out⟩
        have n6_ : zC (((w30.setCell ⟨gb1452, 0, none⟩ (.int .i64 ((rd_T38 t1445 x21_1).f0))).setCell ⟨gb1452, 1, none⟩ (.int .i64 ((rd_T38 t1445 x21_1).f1))).heap[gb1452]? = some (.cells #[.int .i64 ((rd_T38 t1445 x21_1).f0), .int .i64 ((rd_T38 t1445 x21_1).f1)] 38 (0, 0))) := ⟨by (with_reducible repeat (first | refine zD ?_ _ | refine zG ?_ | refine zE ?_ _)); refine zS (cs := #[.int .i64 ((rd_T38 t1445 x21_1).f0), .int .i64 0]) ?_ 1 _ rfl; (with_reducible repeat (first | refine zD ?_ _ | refine zG ?_ | refine zE ?_ _)); refine zS (cs := #[.int .i64 0, .int .i64 0]) ?_ 0 _ rfl; (with_reducible repeat (first | refine zD ?_ _ | refine zG ?_ | refine zE ?_ _)); exact BK1452.out⟩
        have n7_ : zC (Below w.heap.size w ((w30.setCell ⟨gb1452, 0, none⟩ (.int .i64 ((rd_T38 t1445 x21_1).f0))).setCell ⟨gb1452, 1, none⟩ (.int .i64 ((rd_T38 t1445 x21_1).f1)))) := ⟨by repeat (first | (with_reducible first | exact HB.out | apply zI | apply zB | apply zF | refine zH ?_ GE1434.out | refine zH ?_ GE1435.out | refine zH ?_ GE1440.out | refine zH ?_ GE1441.out | refine zH ?_ GE1452.out) | exact HB.out)⟩
        (try clear HO_5)
        (try clear HO_19)
        (try clear BK1434)
        (try clear BK1435)
        (try clear BK1440)
        (try clear BK1441)
        (try clear BK1452)
        (try clear HB)
        generalize ((w30.setCell ⟨gb1452, 0, none⟩ (.int .i64 ((rd_T38 t1445 x21_1).f0))).setCell ⟨gb1452, 1, none⟩ (.int .i64 ((rd_T38 t1445 x21_1).f1))) = w36 at n0_ n1_ n2_ n3_ n4_ n5_ n6_ n7_ ⊢
        have HO_5 := n0_
        have HO_19 := n1_
        have BK1434 := n2_
        have BK1435 := n3_
        have BK1440 := n4_
        have BK1441 := n5_
        have BK1452 := n6_
        have HB := n7_
        clear n0_ n1_ n2_ n3_ n4_ n5_ n6_ n7_
        have n0_ := zC.mk (Kd.R_drew HO_5.out)
        have n1_ := zC.mk (Kd.R_drew HO_19.out)
        have n2_ := zC.mk (zG BK1434.out)
        have n3_ := zC.mk (zG BK1435.out)
        have n4_ := zC.mk (zG BK1440.out)
        have n5_ := zC.mk (zG BK1441.out)
        have n6_ := zC.mk (zG BK1452.out)
        have n7_ := zC.mk (zF HB.out)
        clear HO_5
        clear HO_19
        clear BK1434
        clear BK1435
        clear BK1440
        clear BK1441
        clear BK1452
        clear HB
        have HO_5 := n0_
        have HO_19 := n1_
        have BK1434 := n2_
        have BK1435 := n3_
        have BK1440 := n4_
        have BK1441 := n5_
        have BK1452 := n6_
        have HB := n7_
        clear n0_ n1_ n2_ n3_ n4_ n5_ n6_ n7_
        refine start_ (n := 5) (S := fun w' => w'.cell? ⟨gb1434, 0, none⟩ = some (.int .i64 a0_0) ∧ w'.cell? ⟨gb1434, 1, none⟩ = some (.int .i64 a0_1) ∧ w'.cell? ⟨gb1434, 2, none⟩ = some (.int .i64 a0_2) ∧ w'.cell? ⟨gb1434, 3, none⟩ = some (.int .i64 a0_3) ∧ w'.cell? ⟨gb1434, 4, none⟩ = some (.slice A0_4 l0_4.length c0_4) ∧ w'.cell? ⟨gb1452, 0, none⟩ = some (.int .i64 ((rd_T38 t1445 x21_1).f0)) ∧ w'.cell? ⟨gb1452, 1, none⟩ = some (.int .i64 ((rd_T38 t1445 x21_1).f1))) (ds := []) #[false, false, false, false, false] (by kernel_rfl) rfl rfl ⟨(zA BK1434.out 0).trans rfl, (zA BK1434.out 1).trans rfl, (zA BK1434.out 2).trans rfl, (zA BK1434.out 3).trans rfl, (zA BK1434.out 4).trans rfl, (zA BK1452.out 0).trans rfl, (zA BK1452.out 1).trans rfl⟩ (fun hHeld => ?_)
        generalize w36.drew = w37 at HO_5 HO_19 BK1434 BK1435 BK1440 BK1441 BK1452 HB hHeld ⊢
        refine yC (i := 0) (N := some 25) (v := ?_) (a' := ?_) #[true, false, false, false, false] rfl rfl (by kernel_rfl) (fun _ _ _ h => h) (Or.inl ⟨by rfl, ?_⟩) hHeld ?_ ?_
        rotate_left
        ·
         rintro w' ⟨s0, s1, s2, s3, s4, s5, s6⟩
         go_simp
         with_reducible rfl
        rotate_left
        ·
         simp only [Act.put, List.setIfInBounds_toArray, List.set_cons_zero, List.set_cons_succ, zP, zO]
         rfl
        refine yC (i := 2) (N := some 27) (v := ?_) (a' := ?_) #[true, false, true, false, false] rfl rfl (by kernel_rfl) (fun _ _ _ h => h) (Or.inl ⟨by rfl, ?_⟩) hHeld ?_ ?_
        rotate_left
        ·
         rintro w' ⟨s0, s1, s2, s3, s4, s5, s6⟩
         go_simp
         with_reducible rfl
        rotate_left
        ·
         simp only [Act.put, List.setIfInBounds_toArray, List.set_cons_zero, List.set_cons_succ, zP, zO]
         rfl
        refine one_ (i := 1) (N := some 26) #[true, true, true, false, false] rfl rfl (by kernel_rfl) (by decide) (fun K hK => ?_)
        refine yD Try.func81 (by kernel_rfl) rfl #[] (by rfl) rfl rfl (by (try simp only [List.map_toArray, List.map_cons, List.map_nil]); first | done | rfl | (simp only [List.length_drop, List.length_take]; rfl)) ?_
        with_reducible refine (impl_unit.calls  t1453 t1454 t1455 t1456 _ A26.out).mono ?_
        rintro e w38 ⟨rfl, hb⟩
        refine ⟨_, rfl, ?_⟩
        have n0_ := zC.mk (Kd.R_below (by (with_reducible repeat (first | apply Kd.R_alloc | apply Kd.R_drewN | apply Kd.R_drew)); exact HO_5.out) hb)
        have n1_ := zC.mk (Kd.R_below (by (with_reducible repeat (first | apply Kd.R_alloc | apply Kd.R_drewN | apply Kd.R_drew)); exact HO_19.out) hb)
        have n2_ := zC.mk (zK (g := gb1434) (o := .cells #[.int .i64 a0_0, .int .i64 a0_1, .int .i64 a0_2, .int .i64 a0_3, .slice A0_4 l0_4.length c0_4] 30 (0, 0)) (by (with_reducible repeat (first | refine zD ?_ _ | refine zG ?_ | refine zE ?_ _)); exact BK1434.out) hb)
        have n3_ := zC.mk (zK (g := gb1435) (o := .cells #[.int .i64 0, .int .i64 0, .int .i64 0] 28 (0, 0)) (by (with_reducible repeat (first | refine zD ?_ _ | refine zG ?_ | refine zE ?_ _)); exact BK1435.out) hb)
        have n4_ := zC.mk (zK (g := gb1440) (o := .cells #[.int .i64 t1436, .int .i64 t1437] 38 (0, 0)) (by (with_reducible repeat (first | refine zD ?_ _ | refine zG ?_ | refine zE ?_ _)); exact BK1440.out) hb)
        have n5_ := zC.mk (zK (g := gb1441) (o := .cells #[.int .i64 t1438, .int .i64 t1439] 38 (0, 0)) (by (with_reducible repeat (first | refine zD ?_ _ | refine zG ?_ | refine zE ?_ _)); exact BK1441.out) hb)
        have n6_ := zC.mk (zK (g := gb1452) (o := .cells #[.int .i64 ((rd_T38 t1445 x21_1).f0), .int .i64 ((rd_T38 t1445 x21_1).f1)] 38 (0, 0)) (by (with_reducible repeat (first | refine zD ?_ _ | refine zG ?_ | refine zE ?_ _)); exact BK1452.out) hb)
        have n7_ := zC.mk (zL (by repeat (first | (with_reducible first | exact HB.out | apply zI | apply zB | apply zF | refine zH ?_ GE1434.out | refine zH ?_ GE1435.out | refine zH ?_ GE1440.out | refine zH ?_ GE1441.out | refine zH ?_ GE1452.out) | exact HB.out)) hb)
        clear HO_5
        clear HO_19
        clear BK1434
        clear BK1435
        clear BK1440
        clear BK1441
        clear BK1452
        clear HB
        have HO_5 := n0_
        have HO_19 := n1_
        have BK1434 := n2_
        have BK1435 := n3_
        have BK1440 := n4_
        have BK1441 := n5_
        have BK1452 := n6_
        have HB := n7_
        clear n0_ n1_ n2_ n3_ n4_ n5_ n6_ n7_
        (try clear hb)
        (try clear hb2)
        (try clear hk)
        (try clear hi)
        refine hK.out _ _ ⟨(zA BK1434.out 0).trans rfl, (zA BK1434.out 1).trans rfl, (zA BK1434.out 2).trans rfl, (zA BK1434.out 3).trans rfl, (zA BK1434.out 4).trans rfl, (zA BK1452.out 0).trans rfl, (zA BK1452.out 1).trans rfl⟩ (fun hHeld => ?_)
        clear hK K
        refine yB (a' := ?_) ?_ ?_
        rotate_left
        ·
         show Act.put _ (some 26) _ = _
         simp only [Act.put, List.setIfInBounds_toArray, List.set_cons_zero, List.set_cons_succ, zP, zO]
         rfl
        refine zW (i := 3) (N := some 28) (v := ?_) (a' := ?_) #[true, true, true, true, false] rfl rfl (by kernel_rfl) (fun _ _ _ h => h) (Or.inl ⟨by rfl, ?_⟩) ?_ ?_
        rotate_left
        ·
         intro w'
         go_simp
         with_reducible rfl
        rotate_left
        ·
         simp only [Act.put, List.setIfInBounds_toArray, List.set_cons_zero, List.set_cons_succ, zP, zO]
         rfl
        refine one_ (i := 4) (N := some 29) #[true, true, true, true, true] rfl rfl (by kernel_rfl) (by decide) (fun K hK => ?_)
        refine yD Try.func151 (by kernel_rfl) rfl #[.agg #[.int .i64 a0_0, .int .i64 a0_1, .int .i64 a0_2, .int .i64 a0_3, .slice A0_4 l0_4.length c0_4], .agg #[.int .i64 t1453, .int .i64 t1454, .int .i64 t1455, .int .i64 t1456, .int .i64 ((rd_T38 t1445 x21_1).f0), .int .i64 ((rd_T38 t1445 x21_1).f1)]] (by rfl) rfl rfl (by (try simp only [List.map_toArray, List.map_cons, List.map_nil]); first | done | rfl | (simp only [List.length_drop, List.length_take]; rfl)) ?_
        with_reducible refine (impl_Pattern_keeps.calls k1 a0_0 a0_1 a0_2 a0_3 _ _ l0_4 t1453 t1454 t1455 t1456 ((rd_T38 t1445 x21_1).f0) ((rd_T38 t1445 x21_1).f1) true _ ?side1 ?side2 A27.out).mono ?_
        (case side1 => repeat (first | exact (Kd.C_below HR0_4.out HB.out) | (with_reducible refine Kd.C_alloc ?_ _) | (with_reducible refine Kd.C_drewN ?_ _) | (with_reducible refine Kd.C_drew ?_)))
        (case side2 => exact HC0_4.out)
        rintro e w39 ⟨rfl, hb⟩
        refine ⟨_, rfl, ?_⟩
        have n0_ := zC.mk (Kd.R_below (by (with_reducible repeat (first | apply Kd.R_alloc | apply Kd.R_drewN | apply Kd.R_drew)); exact HO_5.out) hb)
        have n1_ := zC.mk (Kd.R_below (by (with_reducible repeat (first | apply Kd.R_alloc | apply Kd.R_drewN | apply Kd.R_drew)); exact HO_19.out) hb)
        have n2_ := zC.mk (zK (g := gb1434) (o := .cells #[.int .i64 a0_0, .int .i64 a0_1, .int .i64 a0_2, .int .i64 a0_3, .slice A0_4 l0_4.length c0_4] 30 (0, 0)) (by (with_reducible repeat (first | refine zD ?_ _ | refine zG ?_ | refine zE ?_ _)); exact BK1434.out) hb)
        have n3_ := zC.mk (zK (g := gb1435) (o := .cells #[.int .i64 0, .int .i64 0, .int .i64 0] 28 (0, 0)) (by (with_reducible repeat (first | refine zD ?_ _ | refine zG ?_ | refine zE ?_ _)); exact BK1435.out) hb)
        have n4_ := zC.mk (zK (g := gb1440) (o := .cells #[.int .i64 t1436, .int .i64 t1437] 38 (0, 0)) (by (with_reducible repeat (first | refine zD ?_ _ | refine zG ?_ | refine zE ?_ _)); exact BK1440.out) hb)
        have n5_ := zC.mk (zK (g := gb1441) (o := .cells #[.int .i64 t1438, .int .i64 t1439] 38 (0, 0)) (by (with_reducible repeat (first | refine zD ?_ _ | refine zG ?_ | refine zE ?_ _)); exact BK1441.out) hb)
        have n6_ := zC.mk (zK (g := gb1452) (o := .cells #[.int .i64 ((rd_T38 t1445 x21_1).f0), .int .i64 ((rd_T38 t1445 x21_1).f1)] 38 (0, 0)) (by (with_reducible repeat (first | refine zD ?_ _ | refine zG ?_ | refine zE ?_ _)); exact BK1452.out) hb)
        have n7_ := zC.mk (zL (by repeat (first | (with_reducible first | exact HB.out | apply zI | apply zB | apply zF | refine zH ?_ GE1434.out | refine zH ?_ GE1435.out | refine zH ?_ GE1440.out | refine zH ?_ GE1441.out | refine zH ?_ GE1452.out) | exact HB.out)) hb)
        clear HO_5
        clear HO_19
        clear BK1434
        clear BK1435
        clear BK1440
        clear BK1441
        clear BK1452
        clear HB
        have HO_5 := n0_
        have HO_19 := n1_
        have BK1434 := n2_
        have BK1435 := n3_
        have BK1440 := n4_
        have BK1441 := n5_
        have BK1452 := n6_
        have HB := n7_
        clear n0_ n1_ n2_ n3_ n4_ n5_ n6_ n7_
        (try clear hb)
        (try clear hb2)
        (try clear hk)
        (try clear hi)
        refine hK.out _ _ ⟨(zA BK1434.out 0).trans rfl, (zA BK1434.out 1).trans rfl, (zA BK1434.out 2).trans rfl, (zA BK1434.out 3).trans rfl, (zA BK1434.out 4).trans rfl, (zA BK1452.out 0).trans rfl, (zA BK1452.out 1).trans rfl⟩ (fun hHeld => ?_)
        clear hK K
        refine yB (a' := ?_) ?_ ?_
        rotate_left
        ·
         show Act.put _ (some 29) _ = _
         simp only [Act.put, List.setIfInBounds_toArray, List.set_cons_zero, List.set_cons_succ, zP, zO]
         rfl
        refine done_ (by kernel_rfl) ?_
        have hcz40_0 : w39.cell? ⟨gb1452, 0, none⟩ = some (.int .i64 ((rd_T38 t1445 x21_1).f0)) := (zA BK1452.out 0).trans rfl
        have hcz40_1 : w39.cell? ⟨gb1452, 1, none⟩ = some (.int .i64 ((rd_T38 t1445 x21_1).f1)) := (zA BK1452.out 1).trans rfl
        have hfz40_0 := zJ BK1452.out 0
        have hfz40_1 := zJ BK1452.out 1
        try go_wp2_with (first | ((with_reducible refine gate_builtin (b := .append) (xs := #[.tmp 30, .tmp 32]) rfl ?_); at_builtin; refine Kd.R_append k38 (w0 := w) w.heap.size rfl (.tmp 30) (.tmp 32) 47 38 (.agg #[(.int .i64 0), (.int .i64 0)]) 16 rfl Try.underlying47 info38 rfl (by decide) (by omega) u5 x5_1 (⟨(rd_T38 t1445 x21_1).f0, (rd_T38 t1445 x21_1).f1⟩ : S38) [.int .i64 ((rd_T38 t1445 x21_1).f0), .int .i64 ((rd_T38 t1445 x21_1).f1)] (fun k_ => some k_ ≠ (.slice (some ad1451) t1445.length co22 : Value).ownBlock ∧ k_ ≠ gb1440 ∧ k_ ≠ gb1441 ∧ k_ ≠ gb1452) (fun _ => False) rfl rfl ?aP (fun _ hk => hk.elim) ?aF ?aO ?aB ?aS ?aL ?_; (case aP => exact k38_mkM _ _ _ (⟨(rd_T38 t1445 x21_1).f0, (rd_T38 t1445 x21_1).f1⟩ : S38)); (case aB => exact (by repeat (first | (with_reducible first | exact HB.out | apply zI | apply zB | apply zF | refine zH ?_ GE1434.out | refine zH ?_ GE1435.out | refine zH ?_ GE1440.out | refine zH ?_ GE1441.out | refine zH ?_ GE1452.out) | exact HB.out))); (case aF => exact (fun k_ hk => ⟨Kd.fresh' (Kd.R_lt (by (with_reducible repeat (first | apply Kd.R_alloc | apply Kd.R_drewN | apply Kd.R_drew)); exact HO_19.out)) k_ hk, Kd.freshB (g := gb1440) (o := .cells #[.int .i64 t1436, .int .i64 t1437] 38 (0, 0)) (by (with_reducible repeat (first | refine zD ?_ _ | refine zG ?_ | refine zE ?_ _)); exact BK1440.out) k_ hk, Kd.freshB (g := gb1441) (o := .cells #[.int .i64 t1438, .int .i64 t1439] 38 (0, 0)) (by (with_reducible repeat (first | refine zD ?_ _ | refine zG ?_ | refine zE ?_ _)); exact BK1441.out) k_ hk, Kd.freshB (g := gb1452) (o := .cells #[.int .i64 ((rd_T38 t1445 x21_1).f0), .int .i64 ((rd_T38 t1445 x21_1).f1)] 38 (0, 0)) (by (with_reducible repeat (first | refine zD ?_ _ | refine zG ?_ | refine zE ?_ _)); exact BK1452.out) k_ hk⟩)); (case aO => exact (by (with_reducible repeat (first | apply Kd.R_alloc | apply Kd.R_drewN | apply Kd.R_drew)); exact HO_5.out)); (case aS => exact (zM (by repeat (first | (with_reducible first | exact HB.out | apply zI | apply zB | apply zF | refine zH ?_ GE1434.out | refine zH ?_ GE1435.out | refine zH ?_ GE1440.out | refine zH ?_ GE1441.out | refine zH ?_ GE1452.out) | exact HB.out)))); (case aL => have := LMc29.out; omega); intro v1459 w41 ho hb hg hat; rw [← Ny1458.out] at ho; have n0_ := zC.mk (Kd.R_after (ok := (fun k_ => k_ ≠ gb1440 ∧ k_ ≠ gb1441 ∧ k_ ≠ gb1452)) (by (with_reducible repeat (first | apply Kd.R_alloc | apply Kd.R_drewN | apply Kd.R_drew)); exact Kd.R_mono HO_19.out (fun _ hk => ⟨⟨hk.2.1, ⟨hk.2.2.1, hk.2.2.2⟩⟩, hk.1⟩)) hg hat); have n1_ := zC.mk (blk_grown (g := gb1434) (o := .cells #[.int .i64 a0_0, .int .i64 a0_1, .int .i64 a0_2, .int .i64 a0_3, .slice A0_4 l0_4.length c0_4] 30 (0, 0)) (by (with_reducible repeat (first | refine zD ?_ _ | refine zG ?_ | refine zE ?_ _)); exact BK1434.out) hg (Kd.R_ne HO_5.out BK1434.out (by decide))); have n2_ := zC.mk (blk_grown (g := gb1435) (o := .cells #[.int .i64 0, .int .i64 0, .int .i64 0] 28 (0, 0)) (by (with_reducible repeat (first | refine zD ?_ _ | refine zG ?_ | refine zE ?_ _)); exact BK1435.out) hg (Kd.R_ne HO_5.out BK1435.out (by decide))); have n3_ := zC.mk (blk_grown (g := gb1440) (o := .cells #[.int .i64 t1436, .int .i64 t1437] 38 (0, 0)) (by (with_reducible repeat (first | refine zD ?_ _ | refine zG ?_ | refine zE ?_ _)); exact BK1440.out) hg (Kd.R_away HO_5.out (fun _ hk => hk.2.1))); have n4_ := zC.mk (blk_grown (g := gb1441) (o := .cells #[.int .i64 t1438, .int .i64 t1439] 38 (0, 0)) (by (with_reducible repeat (first | refine zD ?_ _ | refine zG ?_ | refine zE ?_ _)); exact BK1441.out) hg (Kd.R_away HO_5.out (fun _ hk => hk.2.2.1))); have n5_ := zC.mk (blk_grown (g := gb1452) (o := .cells #[.int .i64 ((rd_T38 t1445 x21_1).f0), .int .i64 ((rd_T38 t1445 x21_1).f1)] 38 (0, 0)) (by (with_reducible repeat (first | refine zD ?_ _ | refine zG ?_ | refine zE ?_ _)); exact BK1452.out) hg (Kd.R_away HO_5.out (fun _ hk => hk.2.2.2))); have n6_ := zC.mk (hb); have n7_ := zC.mk (ho); clear HO_19; clear BK1434; clear BK1435; clear BK1440; clear BK1441; clear BK1452; clear HB; clear HO_5; have HO_19 := n0_; have BK1434 := n1_; have BK1435 := n2_; have BK1440 := n3_; have BK1441 := n4_; have BK1452 := n5_; have HB := n6_; have HO1460 := n7_; clear n0_ n1_ n2_ n3_ n4_ n5_ n6_ n7_; clear ho hb hg hat))
        go_roundg k1
        case measure => have := HK1.out; omega
        case rel => exact ⟨(y1458), (wrap64 (x21_1 + 1)), (by first | rfl | (simp; done) | (simp [*]; done)), H', ⟨by have := HK1.out; omega⟩, ⟨by (with_reducible repeat (first | apply Kd.R_alloc | apply Kd.R_drewN | apply Kd.R_drew)); exact Kd.R_mono HO1460.out (fun _ hk => ⟨hk.1, ⟨hk.2.1, hk.2.2.1⟩⟩)⟩, ⟨by (with_reducible repeat (first | apply Kd.R_alloc | apply Kd.R_drewN | apply Kd.R_drew)); exact Kd.R_mono HO_19.out (fun _ hk => ⟨hk.2, ⟨hk.1.1, hk.1.2.1⟩⟩)⟩, ⟨by (with_reducible repeat (first | refine zD ?_ _ | refine zG ?_ | refine zE ?_ _)); exact BK1434.out⟩, ⟨by (with_reducible repeat (first | refine zD ?_ _ | refine zG ?_ | refine zE ?_ _)); exact BK1435.out⟩, ⟨by (with_reducible repeat (first | refine zD ?_ _ | refine zG ?_ | refine zE ?_ _)); exact BK1440.out⟩, ⟨by (with_reducible repeat (first | refine zD ?_ _ | refine zG ?_ | refine zE ?_ _)); exact BK1441.out⟩, ⟨by repeat (first | (with_reducible first | exact HB.out | apply zI | apply zB | apply zF | refine zH ?_ GE1434.out | refine zH ?_ GE1435.out | refine zH ?_ GE1440.out | refine zH ?_ GE1441.out | refine zH ?_ GE1452.out) | exact HB.out)⟩⟩
       ·
        rw [if_neg c29] at H
        exact absurd H (by simp)
      ·
       replace c28 := Bool.eq_false_iff.mpr c28
       subst c28
       have H1 : (impl_Pattern_fullLattice.l0 k1 x5_1 t1445 (t1445.length : Int) (wrap64 (x21_1 + 1)) a0_0 a0_1 a0_2 a0_3 l0_4) = some (r1, r2, r3) := by rw [if_neg (show ¬ (false = true) by decide)] at H; exact H
       clear H
       have H := H1
       clear H1
       have H' := zC.mk H
       clear H
       have p1451 : 0 ≤ (x21_1 : Int) := of_decide_eq_true (by first | (with_reducible assumption) | assumption)
       have q1451 : x21_1 < (t1445.length : Int) := of_decide_eq_true (by first | (with_reducible assumption) | assumption)
       obtain ⟨ad1451, e1451, hx1451_0, hx1451_1⟩ := at_T38 (Kd.R_reads' HO_19.out).2.2 x21_1 p1451 q1451
       cases e1451
       replace p1451 := eq_true p1451
       replace q1451 := eq_true q1451
       try go_wp2_with (first | ((with_reducible refine zQ (N := 7) rfl ?_); refine zN ?hg (N := 7) ?hd (cs := #[.int .i64 0, .int .i64 0]) (t := 38) ?hr ?_; (case hd => rfl); (case hg => rfl); (case hr => first | (go_simp; done) | (go_simp; rfl)); intro gb1452 hg w42 hbox hb; have n0_ := zC.mk (Kd.R_below (Kd.R_elderB (by (with_reducible repeat (first | apply Kd.R_alloc | apply Kd.R_drewN | apply Kd.R_drew)); exact HO_5.out) gb1452 (Nat.le_of_eq hg.symm)) hb); have n1_ := zC.mk (Kd.R_below (Kd.R_elderB (by (with_reducible repeat (first | apply Kd.R_alloc | apply Kd.R_drewN | apply Kd.R_drew)); exact HO_19.out) gb1452 (Nat.le_of_eq hg.symm)) hb); have n2_ := zC.mk (zK (g := gb1434) (o := .cells #[.int .i64 a0_0, .int .i64 a0_1, .int .i64 a0_2, .int .i64 a0_3, .slice A0_4 l0_4.length c0_4] 30 (0, 0)) (by (with_reducible repeat (first | refine zD ?_ _ | refine zG ?_ | refine zE ?_ _)); exact BK1434.out) hb); have n3_ := zC.mk (zK (g := gb1435) (o := .cells #[.int .i64 0, .int .i64 0, .int .i64 0] 28 (0, 0)) (by (with_reducible repeat (first | refine zD ?_ _ | refine zG ?_ | refine zE ?_ _)); exact BK1435.out) hb); have n4_ := zC.mk (zK (g := gb1440) (o := .cells #[.int .i64 t1436, .int .i64 t1437] 38 (0, 0)) (by (with_reducible repeat (first | refine zD ?_ _ | refine zG ?_ | refine zE ?_ _)); exact BK1440.out) hb); have n5_ := zC.mk (zK (g := gb1441) (o := .cells #[.int .i64 t1438, .int .i64 t1439] 38 (0, 0)) (by (with_reducible repeat (first | refine zD ?_ _ | refine zG ?_ | refine zE ?_ _)); exact BK1441.out) hb); have n6_ := zC.mk (zL (by repeat (first | (with_reducible first | exact HB.out | apply zI | apply zB | apply zF | refine zH ?_ GE1434.out | refine zH ?_ GE1435.out | refine zH ?_ GE1440.out | refine zH ?_ GE1441.out) | exact HB.out)) hb); have n7_ := zC.mk (hbox); have n8_ := zC.mk ((by rw [hg]; exact (zM (by repeat (first | (with_reducible first | exact HB.out | apply zI | apply zB | apply zF | refine zH ?_ GE1434.out | refine zH ?_ GE1435.out | refine zH ?_ GE1440.out | refine zH ?_ GE1441.out) | exact HB.out))) : w.heap.size ≤ gb1452)); have n9_ := n8_; have n10_ := zC.mk ((by rw [hg]; exact Nat.ne_of_lt (zX (by (with_reducible repeat (first | refine zD ?_ _ | refine zG ?_ | refine zE ?_ _)); exact BK1434.out)) : gb1434 ≠ gb1452)); have n11_ := zC.mk n10_.out.symm; have n12_ := zC.mk ((by rw [hg]; exact Nat.ne_of_lt (zX (by (with_reducible repeat (first | refine zD ?_ _ | refine zG ?_ | refine zE ?_ _)); exact BK1435.out)) : gb1435 ≠ gb1452)); have n13_ := zC.mk n12_.out.symm; have n14_ := zC.mk ((by rw [hg]; exact Nat.ne_of_lt (zX (by (with_reducible repeat (first | refine zD ?_ _ | refine zG ?_ | refine zE ?_ _)); exact BK1440.out)) : gb1440 ≠ gb1452)); have n15_ := zC.mk n14_.out.symm; have n16_ := zC.mk ((by rw [hg]; exact Nat.ne_of_lt (zX (by (with_reducible repeat (first | refine zD ?_ _ | refine zG ?_ | refine zE ?_ _)); exact BK1441.out)) : gb1441 ≠ gb1452)); have n17_ := zC.mk n16_.out.symm; clear HO_5; clear HO_19; clear BK1434; clear BK1435; clear BK1440; clear BK1441; clear HB; have HO_5 := n0_; have HO_19 := n1_; have BK1434 := n2_; have BK1435 := n3_; have BK1440 := n4_; have BK1441 := n5_; have HB := n6_; have BK1452 := n7_; have GW1452 := n8_; have GE1452 := n9_; have NB1434_1452 := n10_; have NB1452_1434 := n11_; have NB1435_1452 := n12_; have NB1452_1435 := n13_; have NB1440_1452 := n14_; have NB1452_1440 := n15_; have NB1441_1452 := n16_; have NB1452_1441 := n17_; clear n0_ n1_ n2_ n3_ n4_ n5_ n6_ n7_ n8_ n9_ n10_ n11_ n12_ n13_ n14_ n15_ n16_ n17_; clear hb hbox hg; have hnb43 := NB1452_1434.out; have hnc43 := NB1434_1452.out; have hnb44 := NB1452_1435.out; have hnc44 := NB1435_1452.out; have hnb45 := NB1452_1440.out; have hnc45 := NB1440_1452.out; have hnb46 := NB1452_1441.out; have hnc46 := NB1441_1452.out; have hcz47_0 : w42.cell? ⟨gb1452, 0, none⟩ = some (.int .i64 0) := (zA BK1452.out 0).trans rfl; have hcz47_1 : w42.cell? ⟨gb1452, 1, none⟩ = some (.int .i64 0) := (zA BK1452.out 1).trans rfl; have hfz47_0 := zJ BK1452.out 0; have hfz47_1 := zJ BK1452.out 1))
       have n0_ : zC (Kd.R k38 38 ((w42.setCell ⟨gb1452, 0, none⟩ (.int .i64 ((rd_T38 t1445 x21_1).f0))).setCell ⟨gb1452, 1, none⟩ (.int .i64 ((rd_T38 t1445 x21_1).f1))) w.heap.size (fun k_ => some k_ ≠ (.slice (some ad1451) t1445.length co22 : Value).ownBlock ∧ k_ ≠ gb1440 ∧ k_ ≠ gb1441 ∧ k_ ≠ gb1452) u5 x5_1) := ⟨by (with_reducible repeat (first | apply Kd.R_alloc | apply Kd.R_drewN | apply Kd.R_drew)); exact Kd.R_mono (Kd.R_far (p := ⟨gb1452, 1, none⟩) (Kd.R_far (p := ⟨gb1452, 0, none⟩) (Kd.R_mono HO_5.out (fun k_ hk => (⟨hk, hk.2⟩ : _ ∧ k_ ≠ gb1452))) (fun _ hk => hk.2) (.int .i64 ((rd_T38 t1445 x21_1).f0))) (fun _ hk => hk.2) (.int .i64 ((rd_T38 t1445 x21_1).f1))) (fun _ hk => ⟨hk.1.1.1, ⟨hk.1.1.2.1, ⟨hk.1.1.2.2, hk.1.2⟩⟩⟩)⟩
       have n1_ : zC (Kd.R k38 38 ((w42.setCell ⟨gb1452, 0, none⟩ (.int .i64 ((rd_T38 t1445 x21_1).f0))).setCell ⟨gb1452, 1, none⟩ (.int .i64 ((rd_T38 t1445 x21_1).f1))) w.heap.size (fun k_ => some k_ ≠ (u5 : Value).ownBlock ∧ k_ ≠ gb1440 ∧ k_ ≠ gb1441 ∧ k_ ≠ gb1452) (.slice (some ad1451) t1445.length co22) t1445) := ⟨by (with_reducible repeat (first | apply Kd.R_alloc | apply Kd.R_drewN | apply Kd.R_drew)); exact Kd.R_mono (Kd.R_far (p := ⟨gb1452, 1, none⟩) (Kd.R_far (p := ⟨gb1452, 0, none⟩) (Kd.R_mono HO_19.out (fun k_ hk => (⟨hk, hk.2⟩ : _ ∧ k_ ≠ gb1452))) (fun _ hk => hk.2) (.int .i64 ((rd_T38 t1445 x21_1).f0))) (fun _ hk => hk.2) (.int .i64 ((rd_T38 t1445 x21_1).f1))) (fun _ hk => ⟨hk.1.1.1, ⟨hk.1.1.2.1, ⟨hk.1.1.2.2, hk.1.2⟩⟩⟩)⟩
       have n2_ : zC (((w42.setCell ⟨gb1452, 0, none⟩ (.int .i64 ((rd_T38 t1445 x21_1).f0))).setCell ⟨gb1452, 1, none⟩ (.int .i64 ((rd_T38 t1445 x21_1).f1))).heap[gb1434]? = some (.cells #[.int .i64 a0_0, .int .i64 a0_1, .int .i64 a0_2, .int .i64 a0_3, .slice A0_4 l0_4.length c0_4] 30 (0, 0))) := ⟨by (with_reducible repeat (first | refine zD ?_ _ | refine zG ?_ | refine zE ?_ _)); refine zV ?_ NB1434_1452.out _; (with_reducible repeat (first | refine zD ?_ _ | refine zG ?_ | refine zE ?_ _)); refine zV ?_ NB1434_1452.out _; (with_reducible repeat (first | refine zD ?_ _ | refine zG ?_ | refine zE ?_ _)); exact BK1434.out⟩
       have n3_ : zC (((w42.setCell ⟨gb1452, 0, none⟩ (.int .i64 ((rd_T38 t1445 x21_1).f0))).setCell ⟨gb1452, 1, none⟩ (.int .i64 ((rd_T38 t1445 x21_1).f1))).heap[gb1435]? = some (.cells #[.int .i64 0, .int .i64 0, .int .i64 0] 28 (0, 0))) := ⟨by (with_reducible repeat (first | refine zD ?_ _ | refine zG ?_ | refine zE ?_ _)); refine zV ?_ NB1435_1452.out _; (with_reducible repeat (first | refine zD ?_ _ | refine zG ?_ | refine zE ?_ _)); refine zV ?_ NB1435_1452.out _; (with_reducible repeat (first | refine zD ?_ _ | refine zG ?_ | refine zE ?_ _)); exact BK1435.out⟩
       have n4_ : zC (((w42.setCell ⟨gb1452, 0, none⟩ (.int .i64 ((rd_T38 t1445 x21_1).f0))).setCell ⟨gb1452, 1, none⟩ (.int .i64 ((rd_T38 t1445 x21_1).f1))).heap[gb1440]? = some (.cells #[.int .i64 t1436, .int .i64 t1437] 38 (0, 0))) := ⟨by (with_reducible repeat (first | refine zD ?_ _ | refine zG ?_ | refine zE ?_ _)); refine zV ?_ NB1440_1452.out _; (with_reducible repeat (first | refine zD ?_ _ | refine zG ?_ | refine zE ?_ _)); refine zV ?_ NB1440_1452.out _; (with_reducible repeat (first | refine zD ?_ _ | refine zG ?_ | refine zE ?_ _)); exact BK1440.out⟩
       have n5_ : zC (((w42.setCell ⟨gb1452, 0, none⟩ (.int .i64 ((rd_T38 t1445 x21_1).f0))).setCell ⟨gb1452, 1, none⟩ (.int .i64 ((rd_T38 t1445 x21_1).f1))).heap[gb1441]? = some (.cells #[.int .i64 t1438, .int .i64 t1439] 38 (0, 0))) := ⟨by (with_reducible repeat (first | refine zD ?_ _ | refine zG ?_ | refine zE ?_ _)); refine zV ?_ NB1441_1452.out _; (with_reducible repeat (first | refine zD ?_ _ | refine zG ?_ | refine zE ?_ _)); refine zV ?_ NB1441_1452.out _; (with_reducible repeat (first | refine zD ?_ _ | refine zG ?_ | refine zE ?_ _)); exact BK1441.out⟩
       have n6_ : zC (((w42.setCell ⟨gb1452, 0, none⟩ (.int .i64 ((rd_T38 t1445 x21_1).f0))).setCell ⟨gb1452, 1, none⟩ (.int .i64 ((rd_T38 t1445 x21_1).f1))).heap[gb1452]? = some (.cells #[.int .i64 ((rd_T38 t1445 x21_1).f0), .int .i64 ((rd_T38 t1445 x21_1).f1)] 38 (0, 0))) := ⟨by (with_reducible repeat (first | refine zD ?_ _ | refine zG ?_ | refine zE ?_ _)); refine zS (cs := #[.int .i64 ((rd_T38 t1445 x21_1).f0), .int .i64 0]) ?_ 1 _ rfl; (with_reducible repeat (first | refine zD ?_ _ | refine zG ?_ | refine zE ?_ _)); refine zS (cs := #[.int .i64 0, .int .i64 0]) ?_ 0 _ rfl; (with_reducible repeat (first | refine zD ?_ _ | refine zG ?_ | refine zE ?_ _)); exact BK1452.out⟩
       have n7_ : zC (Below w.heap.size w ((w42.setCell ⟨gb1452, 0, none⟩ (.int .i64 ((rd_T38 t1445 x21_1).f0))).setCell ⟨gb1452, 1, none⟩ (.int .i64 ((rd_T38 t1445 x21_1).f1)))) := ⟨by repeat (first | (with_reducible first | exact HB.out | apply zI | apply zB | apply zF | refine zH ?_ GE1434.out | refine zH ?_ GE1435.out | refine zH ?_ GE1440.out | refine zH ?_ GE1441.out | refine zH ?_ GE1452.out) | exact HB.out)⟩
       (try clear HO_5)
       (try clear HO_19)
       (try clear BK1434)
       (try clear BK1435)
       (try clear BK1440)
       (try clear BK1441)
       (try clear BK1452)
       (try clear HB)
       generalize ((w42.setCell ⟨gb1452, 0, none⟩ (.int .i64 ((rd_T38 t1445 x21_1).f0))).setCell ⟨gb1452, 1, none⟩ (.int .i64 ((rd_T38 t1445 x21_1).f1))) = w48 at n0_ n1_ n2_ n3_ n4_ n5_ n6_ n7_ ⊢
       have HO_5 := n0_
       have HO_19 := n1_
       have BK1434 := n2_
       have BK1435 := n3_
       have BK1440 := n4_
       have BK1441 := n5_
       have BK1452 := n6_
       have HB := n7_
       clear n0_ n1_ n2_ n3_ n4_ n5_ n6_ n7_
       have n0_ := zC.mk (Kd.R_drew HO_5.out)
       have n1_ := zC.mk (Kd.R_drew HO_19.out)
       have n2_ := zC.mk (zG BK1434.out)
       have n3_ := zC.mk (zG BK1435.out)
       have n4_ := zC.mk (zG BK1440.out)
       have n5_ := zC.mk (zG BK1441.out)
       have n6_ := zC.mk (zG BK1452.out)
       have n7_ := zC.mk (zF HB.out)
       clear HO_5
       clear HO_19
       clear BK1434
       clear BK1435
       clear BK1440
       clear BK1441
       clear BK1452
       clear HB
       have HO_5 := n0_
       have HO_19 := n1_
       have BK1434 := n2_
       have BK1435 := n3_
       have BK1440 := n4_
       have BK1441 := n5_
       have BK1452 := n6_
       have HB := n7_
       clear n0_ n1_ n2_ n3_ n4_ n5_ n6_ n7_
       refine start_ (n := 5) (S := fun w' => w'.cell? ⟨gb1434, 0, none⟩ = some (.int .i64 a0_0) ∧ w'.cell? ⟨gb1434, 1, none⟩ = some (.int .i64 a0_1) ∧ w'.cell? ⟨gb1434, 2, none⟩ = some (.int .i64 a0_2) ∧ w'.cell? ⟨gb1434, 3, none⟩ = some (.int .i64 a0_3) ∧ w'.cell? ⟨gb1434, 4, none⟩ = some (.slice A0_4 l0_4.length c0_4) ∧ w'.cell? ⟨gb1452, 0, none⟩ = some (.int .i64 ((rd_T38 t1445 x21_1).f0)) ∧ w'.cell? ⟨gb1452, 1, none⟩ = some (.int .i64 ((rd_T38 t1445 x21_1).f1))) (ds := []) #[false, false, false, false, false] (by kernel_rfl) rfl rfl ⟨(zA BK1434.out 0).trans rfl, (zA BK1434.out 1).trans rfl, (zA BK1434.out 2).trans rfl, (zA BK1434.out 3).trans rfl, (zA BK1434.out 4).trans rfl, (zA BK1452.out 0).trans rfl, (zA BK1452.out 1).trans rfl⟩ (fun hHeld => ?_)
       generalize w48.drew = w49 at HO_5 HO_19 BK1434 BK1435 BK1440 BK1441 BK1452 HB hHeld ⊢
       refine yC (i := 0) (N := some 25) (v := ?_) (a' := ?_) #[true, false, false, false, false] rfl rfl (by kernel_rfl) (fun _ _ _ h => h) (Or.inl ⟨by rfl, ?_⟩) hHeld ?_ ?_
       rotate_left
       ·
        rintro w' ⟨s0, s1, s2, s3, s4, s5, s6⟩
        go_simp
        with_reducible rfl
       rotate_left
       ·
        simp only [Act.put, List.setIfInBounds_toArray, List.set_cons_zero, List.set_cons_succ, zP, zO]
        rfl
       refine yC (i := 2) (N := some 27) (v := ?_) (a' := ?_) #[true, false, true, false, false] rfl rfl (by kernel_rfl) (fun _ _ _ h => h) (Or.inl ⟨by rfl, ?_⟩) hHeld ?_ ?_
       rotate_left
       ·
        rintro w' ⟨s0, s1, s2, s3, s4, s5, s6⟩
        go_simp
        with_reducible rfl
       rotate_left
       ·
        simp only [Act.put, List.setIfInBounds_toArray, List.set_cons_zero, List.set_cons_succ, zP, zO]
        rfl
       refine one_ (i := 1) (N := some 26) #[true, true, true, false, false] rfl rfl (by kernel_rfl) (by decide) (fun K hK => ?_)
       refine yD Try.func81 (by kernel_rfl) rfl #[] (by rfl) rfl rfl (by (try simp only [List.map_toArray, List.map_cons, List.map_nil]); first | done | rfl | (simp only [List.length_drop, List.length_take]; rfl)) ?_
       with_reducible refine (impl_unit.calls  t1453 t1454 t1455 t1456 _ A26.out).mono ?_
       rintro e w50 ⟨rfl, hb⟩
       refine ⟨_, rfl, ?_⟩
       have n0_ := zC.mk (Kd.R_below (by (with_reducible repeat (first | apply Kd.R_alloc | apply Kd.R_drewN | apply Kd.R_drew)); exact HO_5.out) hb)
       have n1_ := zC.mk (Kd.R_below (by (with_reducible repeat (first | apply Kd.R_alloc | apply Kd.R_drewN | apply Kd.R_drew)); exact HO_19.out) hb)
       have n2_ := zC.mk (zK (g := gb1434) (o := .cells #[.int .i64 a0_0, .int .i64 a0_1, .int .i64 a0_2, .int .i64 a0_3, .slice A0_4 l0_4.length c0_4] 30 (0, 0)) (by (with_reducible repeat (first | refine zD ?_ _ | refine zG ?_ | refine zE ?_ _)); exact BK1434.out) hb)
       have n3_ := zC.mk (zK (g := gb1435) (o := .cells #[.int .i64 0, .int .i64 0, .int .i64 0] 28 (0, 0)) (by (with_reducible repeat (first | refine zD ?_ _ | refine zG ?_ | refine zE ?_ _)); exact BK1435.out) hb)
       have n4_ := zC.mk (zK (g := gb1440) (o := .cells #[.int .i64 t1436, .int .i64 t1437] 38 (0, 0)) (by (with_reducible repeat (first | refine zD ?_ _ | refine zG ?_ | refine zE ?_ _)); exact BK1440.out) hb)
       have n5_ := zC.mk (zK (g := gb1441) (o := .cells #[.int .i64 t1438, .int .i64 t1439] 38 (0, 0)) (by (with_reducible repeat (first | refine zD ?_ _ | refine zG ?_ | refine zE ?_ _)); exact BK1441.out) hb)
       have n6_ := zC.mk (zK (g := gb1452) (o := .cells #[.int .i64 ((rd_T38 t1445 x21_1).f0), .int .i64 ((rd_T38 t1445 x21_1).f1)] 38 (0, 0)) (by (with_reducible repeat (first | refine zD ?_ _ | refine zG ?_ | refine zE ?_ _)); exact BK1452.out) hb)
       have n7_ := zC.mk (zL (by repeat (first | (with_reducible first | exact HB.out | apply zI | apply zB | apply zF | refine zH ?_ GE1434.out | refine zH ?_ GE1435.out | refine zH ?_ GE1440.out | refine zH ?_ GE1441.out | refine zH ?_ GE1452.out) | exact HB.out)) hb)
       clear HO_5
       clear HO_19
       clear BK1434
       clear BK1435
       clear BK1440
       clear BK1441
       clear BK1452
       clear HB
       have HO_5 := n0_
       have HO_19 := n1_
       have BK1434 := n2_
       have BK1435 := n3_
       have BK1440 := n4_
       have BK1441 := n5_
       have BK1452 := n6_
       have HB := n7_
       clear n0_ n1_ n2_ n3_ n4_ n5_ n6_ n7_
       (try clear hb)
       (try clear hb2)
       (try clear hk)
       (try clear hi)
       refine hK.out _ _ ⟨(zA BK1434.out 0).trans rfl, (zA BK1434.out 1).trans rfl, (zA BK1434.out 2).trans rfl, (zA BK1434.out 3).trans rfl, (zA BK1434.out 4).trans rfl, (zA BK1452.out 0).trans rfl, (zA BK1452.out 1).trans rfl⟩ (fun hHeld => ?_)
       clear hK K
       refine yB (a' := ?_) ?_ ?_
       rotate_left
       ·
        show Act.put _ (some 26) _ = _
        simp only [Act.put, List.setIfInBounds_toArray, List.set_cons_zero, List.set_cons_succ, zP, zO]
        rfl
       refine zW (i := 3) (N := some 28) (v := ?_) (a' := ?_) #[true, true, true, true, false] rfl rfl (by kernel_rfl) (fun _ _ _ h => h) (Or.inl ⟨by rfl, ?_⟩) ?_ ?_
       rotate_left
       ·
        intro w'
        go_simp
        with_reducible rfl
       rotate_left
       ·
        simp only [Act.put, List.setIfInBounds_toArray, List.set_cons_zero, List.set_cons_succ, zP, zO]
        rfl
       refine one_ (i := 4) (N := some 29) #[true, true, true, true, true] rfl rfl (by kernel_rfl) (by decide) (fun K hK => ?_)
       refine yD Try.func151 (by kernel_rfl) rfl #[.agg #[.int .i64 a0_0, .int .i64 a0_1, .int .i64 a0_2, .int .i64 a0_3, .slice A0_4 l0_4.length c0_4], .agg #[.int .i64 t1453, .int .i64 t1454, .int .i64 t1455, .int .i64 t1456, .int .i64 ((rd_T38 t1445 x21_1).f0), .int .i64 ((rd_T38 t1445 x21_1).f1)]] (by rfl) rfl rfl (by (try simp only [List.map_toArray, List.map_cons, List.map_nil]); first | done | rfl | (simp only [List.length_drop, List.length_take]; rfl)) ?_
       with_reducible refine (impl_Pattern_keeps.calls k1 a0_0 a0_1 a0_2 a0_3 _ _ l0_4 t1453 t1454 t1455 t1456 ((rd_T38 t1445 x21_1).f0) ((rd_T38 t1445 x21_1).f1) false _ ?side1 ?side2 A27.out).mono ?_
       (case side1 => repeat (first | exact (Kd.C_below HR0_4.out HB.out) | (with_reducible refine Kd.C_alloc ?_ _) | (with_reducible refine Kd.C_drewN ?_ _) | (with_reducible refine Kd.C_drew ?_)))
       (case side2 => exact HC0_4.out)
       rintro e w51 ⟨rfl, hb⟩
       refine ⟨_, rfl, ?_⟩
       have n0_ := zC.mk (Kd.R_below (by (with_reducible repeat (first | apply Kd.R_alloc | apply Kd.R_drewN | apply Kd.R_drew)); exact HO_5.out) hb)
       have n1_ := zC.mk (Kd.R_below (by (with_reducible repeat (first | apply Kd.R_alloc | apply Kd.R_drewN | apply Kd.R_drew)); exact HO_19.out) hb)
       have n2_ := zC.mk (zK (g := gb1434) (o := .cells #[.int .i64 a0_0, .int .i64 a0_1, .int .i64 a0_2, .int .i64 a0_3, .slice A0_4 l0_4.length c0_4] 30 (0, 0)) (by (with_reducible repeat (first | refine zD ?_ _ | refine zG ?_ | refine zE ?_ _)); exact BK1434.out) hb)
       have n3_ := zC.mk (zK (g := gb1435) (o := .cells #[.int .i64 0, .int .i64 0, .int .i64 0] 28 (0, 0)) (by (with_reducible repeat (first | refine zD ?_ _ | refine zG ?_ | refine zE ?_ _)); exact BK1435.out) hb)
       have n4_ := zC.mk (zK (g := gb1440) (o := .cells #[.int .i64 t1436, .int .i64 t1437] 38 (0, 0)) (by (with_reducible repeat (first | refine zD ?_ _ | refine zG ?_ | refine zE ?_ _)); exact BK1440.out) hb)
       have n5_ := zC.mk (zK (g := gb1441) (o := .cells #[.int .i64 t1438, .int .i64 t1439] 38 (0, 0)) (by (with_reducible repeat (first | refine zD ?_ _ | refine zG ?_ | refine zE ?_ _)); exact BK1441.out) hb)
       have n6_ := zC.mk (zK (g := gb1452) (o := .cells #[.int .i64 ((rd_T38 t1445 x21_1).f0), .int .i64 ((rd_T38 t1445 x21_1).f1)] 38 (0, 0)) (by (with_reducible repeat (first | refine zD ?_ _ | refine zG ?_ | refine zE ?_ _)); exact BK1452.out) hb)
       have n7_ := zC.mk (zL (by repeat (first | (with_reducible first | exact HB.out | apply zI | apply zB | apply zF | refine zH ?_ GE1434.out | refine zH ?_ GE1435.out | refine zH ?_ GE1440.out | refine zH ?_ GE1441.out | refine zH ?_ GE1452.out) | exact HB.out)) hb)
       clear HO_5
       clear HO_19
       clear BK1434
       clear BK1435
       clear BK1440
       clear BK1441
       clear BK1452
       clear HB
       have HO_5 := n0_
       have HO_19 := n1_
       have BK1434 := n2_
       have BK1435 := n3_
       have BK1440 := n4_
       have BK1441 := n5_
       have BK1452 := n6_
       have HB := n7_
       clear n0_ n1_ n2_ n3_ n4_ n5_ n6_ n7_
       (try clear hb)
       (try clear hb2)
       (try clear hk)
       (try clear hi)
       refine hK.out _ _ ⟨(zA BK1434.out 0).trans rfl, (zA BK1434.out 1).trans rfl, (zA BK1434.out 2).trans rfl, (zA BK1434.out 3).trans rfl, (zA BK1434.out 4).trans rfl, (zA BK1452.out 0).trans rfl, (zA BK1452.out 1).trans rfl⟩ (fun hHeld => ?_)
       clear hK K
       refine yB (a' := ?_) ?_ ?_
       rotate_left
       ·
        show Act.put _ (some 29) _ = _
        simp only [Act.put, List.setIfInBounds_toArray, List.set_cons_zero, List.set_cons_succ, zP, zO]
        rfl
       refine done_ (by kernel_rfl) ?_
       try go_wp2
       go_roundg k1
       case measure => have := HK1.out; omega
       case rel => exact ⟨(x5_1), (wrap64 (x21_1 + 1)), (by first | rfl | (simp; done) | (simp [*]; done)), H', ⟨by have := HK1.out; omega⟩, ⟨by (with_reducible repeat (first | apply Kd.R_alloc | apply Kd.R_drewN | apply Kd.R_drew)); exact Kd.R_mono HO_5.out (fun _ hk => ⟨hk.1, ⟨hk.2.1, hk.2.2.1⟩⟩)⟩, ⟨by (with_reducible repeat (first | apply Kd.R_alloc | apply Kd.R_drewN | apply Kd.R_drew)); exact Kd.R_mono HO_19.out (fun _ hk => ⟨hk.1, ⟨hk.2.1, hk.2.2.1⟩⟩)⟩, ⟨by (with_reducible repeat (first | refine zD ?_ _ | refine zG ?_ | refine zE ?_ _)); exact BK1434.out⟩, ⟨by (with_reducible repeat (first | refine zD ?_ _ | refine zG ?_ | refine zE ?_ _)); exact BK1435.out⟩, ⟨by (with_reducible repeat (first | refine zD ?_ _ | refine zG ?_ | refine zE ?_ _)); exact BK1440.out⟩, ⟨by (with_reducible repeat (first | refine zD ?_ _ | refine zG ?_ | refine zE ?_ _)); exact BK1441.out⟩, ⟨by repeat (first | (with_reducible first | exact HB.out | apply zI | apply zB | apply zF | refine zH ?_ GE1434.out | refine zH ?_ GE1435.out | refine zH ?_ GE1440.out | refine zH ?_ GE1441.out | refine zH ?_ GE1452.out) | exact HB.out)⟩⟩
     ·
      rw [if_neg c25] at H
      exact absurd H (by simp)
    ·
     rw [if_neg c24] at H
     exact absurd H (by simp)
   ·
    rw [if_neg c23] at H
    have c23b0 : decide (x21_1 < (t1445.length : Int)) = false := decide_eq_false c23
    clear c23
    replace H := Option.bind_eq_some_iff.mp H
    obtain ⟨⟨t1448, t1449, t1450⟩, A520, H⟩ := H
    replace H : (some (t1448, t1449, t1450)) = some (r1, r2, r3) := H
    have A52 := zC.mk A520
    clear A520
    simp only [Option.some.injEq, Prod.mk.injEq] at H
    obtain ⟨rfl, rfl, rfl⟩ := H
    obtain ⟨Ao53, co53, eo53⟩ := Kd.R_slice HO_5.out
    subst eo53
    go_wp2_with (first | ((with_reducible refine zR (f := 130) rfl ?_); refine zZ (some 36) rfl rfl Try.func130 (by kernel_rfl) rfl #[.slice Ao53 x5_1.length co53] rfl (by (try simp only [List.map_toArray, List.map_cons, List.map_nil]); first | done | rfl | (simp only [List.length_drop, List.length_take]; rfl)) ?_; (with_reducible refine (impl_latticeOf.calls k1 _ _ x5_1 t1448 t1449 t1450 _ ?side1 ?side2 A52.out).mono ?_); (case side1 => repeat (first | exact (Kd.R_reads' HO_5.out).2.2 | (with_reducible refine Kd.C_alloc ?_ _) | (with_reducible refine Kd.C_drewN ?_ _) | (with_reducible refine Kd.C_drew ?_))); (case side2 => exact (Kd.R_reads' HO_5.out).2.1); rintro e w54 ⟨rfl, hb⟩; refine ⟨_, rfl, ?_⟩; have n0_ := zC.mk (Kd.R_below (by (with_reducible repeat (first | apply Kd.R_alloc | apply Kd.R_drewN | apply Kd.R_drew)); exact HO_5.out) hb); have n1_ := zC.mk (Kd.R_below (by (with_reducible repeat (first | apply Kd.R_alloc | apply Kd.R_drewN | apply Kd.R_drew)); exact HO_19.out) hb); have n2_ := zC.mk (zK (g := gb1434) (o := .cells #[.int .i64 a0_0, .int .i64 a0_1, .int .i64 a0_2, .int .i64 a0_3, .slice A0_4 l0_4.length c0_4] 30 (0, 0)) (by (with_reducible repeat (first | refine zD ?_ _ | refine zG ?_ | refine zE ?_ _)); exact BK1434.out) hb); have n3_ := zC.mk (zK (g := gb1435) (o := .cells #[.int .i64 0, .int .i64 0, .int .i64 0] 28 (0, 0)) (by (with_reducible repeat (first | refine zD ?_ _ | refine zG ?_ | refine zE ?_ _)); exact BK1435.out) hb); have n4_ := zC.mk (zK (g := gb1440) (o := .cells #[.int .i64 t1436, .int .i64 t1437] 38 (0, 0)) (by (with_reducible repeat (first | refine zD ?_ _ | refine zG ?_ | refine zE ?_ _)); exact BK1440.out) hb); have n5_ := zC.mk (zK (g := gb1441) (o := .cells #[.int .i64 t1438, .int .i64 t1439] 38 (0, 0)) (by (with_reducible repeat (first | refine zD ?_ _ | refine zG ?_ | refine zE ?_ _)); exact BK1441.out) hb); have n6_ := zC.mk (zL (by repeat (first | (with_reducible first | exact HB.out | apply zI | apply zB | apply zF | refine zH ?_ GE1434.out | refine zH ?_ GE1435.out | refine zH ?_ GE1440.out | refine zH ?_ GE1441.out) | exact HB.out)) hb); clear HO_5; clear HO_19; clear BK1434; clear BK1435; clear BK1440; clear BK1441; clear HB; have HO_5 := n0_; have HO_19 := n1_; have BK1434 := n2_; have BK1435 := n3_; have BK1440 := n4_; have BK1441 := n5_; have HB := n6_; clear n0_ n1_ n2_ n3_ n4_ n5_ n6_; (try clear hb); (try clear hb2); (try clear hk); (try clear hi); have hnb55 := NB1435_1434.out; have hnc55 := NB1434_1435.out; have hnb56 := NB1435_1440.out; have hnc56 := NB1440_1435.out; have hnb57 := NB1435_1441.out; have hnc57 := NB1441_1435.out; have hcz58_0 : w54.cell? ⟨gb1435, 0, none⟩ = some (.int .i64 0) := (zA BK1435.out 0).trans rfl; have hcz58_1 : w54.cell? ⟨gb1435, 1, none⟩ = some (.int .i64 0) := (zA BK1435.out 1).trans rfl; have hcz58_2 : w54.cell? ⟨gb1435, 2, none⟩ = some (.int .i64 0) := (zA BK1435.out 2).trans rfl; have hfz58_0 := zJ BK1435.out 0; have hfz58_1 := zJ BK1435.out 1; have hfz58_2 := zJ BK1435.out 2))
    refine bodyPost_ret (results_cell_row rfl _ _ gb1435 28 #[.int .i64 t1448, .int .i64 t1449, .int .i64 t1450] (0, 0) _ rfl (by (with_reducible repeat (first | refine zD ?_ _ | refine zG ?_ | refine zE ?_ _)); refine zS (cs := #[.int .i64 t1448, .int .i64 t1449, .int .i64 0]) ?_ 2 _ rfl; (with_reducible repeat (first | refine zD ?_ _ | refine zG ?_ | refine zE ?_ _)); refine zS (cs := #[.int .i64 t1448, .int .i64 0, .int .i64 0]) ?_ 1 _ rfl; (with_reducible repeat (first | refine zD ?_ _ | refine zG ?_ | refine zE ?_ _)); refine zS (cs := #[.int .i64 0, .int .i64 0, .int .i64 0]) ?_ 0 _ rfl; (with_reducible repeat (first | refine zD ?_ _ | refine zG ?_ | refine zE ?_ _)); exact BK1435.out) Try.underlying28 rfl (by kernel_rfl)) rfl ?_
    exact ⟨by first | rfl | (simp [errW_none, errW_some] <;> rfl) | (simp [*, errW_none, errW_some] <;> rfl), by repeat (first | (with_reducible first | exact HB.out | apply zI | apply zB | apply zF | refine zH ?_ GE1434.out | refine zH ?_ GE1435.out | refine zH ?_ GE1440.out | refine zH ?_ GE1441.out) | exact HB.out)⟩

end Go.Proofs.Ytomgliinndfliaa.X
