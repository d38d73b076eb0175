/- Part of the proof of the law FnExactPanelStarts: each function of the code computes what its plain function says. No condition of its own. -/
import Derived.Test.YtioendlbpendpaaCFnExactPanelStartsW0
set_option maxHeartbeats 8000000
set_option maxRecDepth 100000
namespace Go.Proofs.Ytioendlbpendpaa.X
open Go.RowKit Go.Proofs.YtioendlbpendpaaW.PrintWords Go.Proofs.YtioendlbpendpaaW.PrintLast Go.Proofs.YtioendlbpendpaaW.PrintMore
attribute [local go_sem] max2_int min2_int max_two min_two max_three min_three max_four min_four   -- for this text's walks alone
set_option linter.unusedVariables false
set_option linter.unusedSimpArgs false
theorem yJ.calls (k : Nat) (A0 : Option Addr) (c0 : Nat) (l0 : List (S50)) (r1 : Int) (r2 : Int) (r3 : Int) (w : World) (hr0 : Kd.C k50 w A0 l0.length l0) (hc0 : l0.length ≤ c0) (h : yJ.f k l0 = some (r1, r2, r3)) :
  Calls Try.prog 130 #[.slice A0 l0.length c0] w fun e w' => e = .returned (.agg #[.int .i64 r1, .int .i64 r2, .int .i64 r3]) ∧ Below w.heap.size w w' := by
 have hu30 := Try.underlying30
 have hu50 := Try.underlying50
 have HR0 := zC.mk hr0
 have HC0 := zC.mk hc0
 clear hr0 hc0
 have HB := zC.mk (Below.refl w.heap.size w)
 have H : (yJ.l0 k l0 0 0 0 0) = some (r1, r2, r3) := h
 clear h
 have H' := zC.mk H
 clear H
 go_enter Try.func130, Try.ntmps130
 go_wp2_with (first | ((with_reducible refine zQ (N := 2) rfl ?_); refine zO ?hg (N := 2) ?hd (cs := #[.int .i64 0, .int .i64 0, .int .i64 0]) (t := 30) ?hr ?_; (case hd => rfl); (case hg => rfl); (case hr => first | (go_simp; done) | (go_simp; rfl)); intro gb167 hg w2 hbox hb; have n0_ := zC.mk (zL (by repeat (first | (with_reducible first | exact HB.out | apply zG | apply zA | apply zF) | exact HB.out)) hb); have n1_ := zC.mk (hbox); have n2_ := zC.mk ((by rw [hg]; exact (zM (by repeat (first | (with_reducible first | exact HB.out | apply zG | apply zA | apply zF) | exact HB.out))) : w.heap.size ≤ gb167)); have n3_ := n2_; clear HB; have HB := n0_; have BK167 := n1_; have GW167 := n2_; have GE167 := n3_; clear n0_ n1_ n2_ n3_; clear hb hbox hg) | ((with_reducible refine zQ (N := 3) rfl ?_); refine zO ?hg (N := 3) ?hd (cs := #[.int .i64 0, .int .i64 0]) (t := 50) ?hr ?_; (case hd => rfl); (case hg => rfl); (case hr => first | (go_simp; done) | (go_simp; rfl)); intro gb168 hg w3 hbox hb; have n0_ := zC.mk (zK (g := gb167) (o := .cells #[.int .i64 0, .int .i64 0, .int .i64 0] 30 (0, 0)) (by (with_reducible repeat (first | refine zE ?_ _ | refine zI ?_ | refine zD ?_ _)); exact BK167.out) hb); have n1_ := zC.mk (zL (by repeat (first | (with_reducible first | exact HB.out | apply zG | apply zA | apply zF | refine zH ?_ GE167.out) | exact HB.out)) hb); have n2_ := zC.mk (hbox); have n3_ := zC.mk ((by rw [hg]; exact (zM (by repeat (first | (with_reducible first | exact HB.out | apply zG | apply zA | apply zF | refine zH ?_ GE167.out) | exact HB.out))) : w.heap.size ≤ gb168)); have n4_ := n3_; have n5_ := zC.mk ((by rw [hg]; exact Nat.ne_of_lt (zV (by (with_reducible repeat (first | refine zE ?_ _ | refine zI ?_ | refine zD ?_ _)); exact BK167.out)) : gb167 ≠ gb168)); have n6_ := zC.mk n5_.out.symm; clear BK167; clear HB; have BK167 := n0_; have HB := n1_; have BK168 := n2_; have GW168 := n3_; have GE168 := n4_; have NB167_168 := n5_; have NB168_167 := n6_; clear n0_ n1_ n2_ n3_ n4_ n5_ n6_; clear hb hbox hg; have hnb4 := NB168_167.out; have hnc4 := NB167_168.out; have hcz5_0 : w3.cell? ⟨gb168, 0, none⟩ = some (.int .i64 0) := zB BK168.out 0; have hcz5_1 : w3.cell? ⟨gb168, 1, none⟩ = some (.int .i64 0) := zB BK168.out 1; have hfz5_0 := zJ BK168.out 0; have hfz5_1 := zJ BK168.out 1))
 go_loopg [4, 5] k (fun kq v4 v5 w' => ∃ (x4_1 : Int) (x5_1 : Int) (x169000_1 : Int) (x169001_1 : Int), v4 = .int .i64 x4_1 ∧ v5 = .int .i64 x5_1 ∧ zC (yJ.l0 kq l0 x4_1 x5_1 x169000_1 x169001_1 = some (r1, r2, r3)) ∧ zC (kq ≤ k) ∧ zC (w'.heap[gb167]? = some (.cells #[.int .i64 0, .int .i64 0, .int .i64 0] 30 (0, 0))) ∧ zC (w'.heap[gb168]? = some (.cells #[.int .i64 x169000_1, .int .i64 x169001_1] 50 (0, 0))) ∧ zC (Below w.heap.size w w'))
 case atStart => exact ⟨(0), (0), (0), (0), (by first | rfl | (simp; done) | (simp [*]; done)), (by first | rfl | (simp; done) | (simp [*]; done)), H', ⟨Nat.le_refl _⟩, ⟨by (with_reducible repeat (first | refine zE ?_ _ | refine zI ?_ | refine zD ?_ _)); refine zU ?_ NB167_168.out _; (with_reducible repeat (first | refine zE ?_ _ | refine zI ?_ | refine zD ?_ _)); refine zU ?_ NB167_168.out _; (with_reducible repeat (first | refine zE ?_ _ | refine zI ?_ | refine zD ?_ _)); exact BK167.out⟩, ⟨by (with_reducible repeat (first | refine zE ?_ _ | refine zI ?_ | refine zD ?_ _)); refine zS (cs := #[.int .i64 0, .int .i64 0]) ?_ 1 _ rfl; (with_reducible repeat (first | refine zE ?_ _ | refine zI ?_ | refine zD ?_ _)); refine zS (cs := #[.int .i64 0, .int .i64 0]) ?_ 0 _ rfl; (with_reducible repeat (first | refine zE ?_ _ | refine zI ?_ | refine zD ?_ _)); exact BK168.out⟩, ⟨by repeat (first | (with_reducible first | exact HB.out | apply zG | apply zA | apply zF | refine zH ?_ GE167.out | refine zH ?_ GE168.out) | exact HB.out)⟩⟩
 case round =>
  clear H'
  try clear c1
  try clear p2
  try clear c4
  try clear hcz5_0
  try clear hcz5_1
  try clear hfz5_0
  try clear hfz5_1
  obtain ⟨x4_1, x5_1, x169000_1, x169001_1, rfl, rfl, HA, HK1, BK167, BK168, HB⟩ := hrel
  cases gk with
  | zero => exact absurd HA.out (by simp [yJ.l0])
  | succ k1 =>
   have H := HA.out
   clear HA
   simp only [yJ.l0] at H
   by_cases c6 : x5_1 < (l0.length : Int)
   ·
    rw [if_pos c6] at H
    have c6b0 : decide (x5_1 < (l0.length : Int)) = true := decide_eq_true c6
    clear c6
    by_cases c7 : 0 ≤ x5_1
    ·
     rw [if_pos c7] at H
     have c7b0 : decide (0 ≤ x5_1) = true := decide_eq_true c7
     clear c7
     have H' := zC.mk H
     clear H
     have p169 : 0 ≤ (x5_1 : Int) := of_decide_eq_true (by first | (with_reducible assumption) | assumption)
     have q169 : x5_1 < (l0.length : Int) := of_decide_eq_true (by first | (with_reducible assumption) | assumption)
     obtain ⟨ad169, e169, hx169_0, hx169_1⟩ := at_T50 HR0.out x5_1 p169 q169
     cases e169
     replace hx169_0 := (HB.out.cell (World.block_lt_of_cell? w _ hx169_0)).trans hx169_0
     replace hx169_1 := (HB.out.cell (World.block_lt_of_cell? w _ hx169_1)).trans hx169_1
     replace p169 := eq_true p169
     replace q169 := eq_true q169
     go_wp2_with (first | ((with_reducible refine zQ (N := 6) rfl ?_); refine zO ?hg (N := 6) ?hd (cs := #[.int .i64 0, .int .i64 0]) (t := 50) ?hr ?_; (case hd => rfl); (case hg => rfl); (case hr => first | (go_simp; done) | (go_simp; rfl)); intro gb170 hg w8 hbox hb; have n0_ := zC.mk (zK (g := gb167) (o := .cells #[.int .i64 0, .int .i64 0, .int .i64 0] 30 (0, 0)) (by (with_reducible repeat (first | refine zE ?_ _ | refine zI ?_ | refine zD ?_ _)); exact BK167.out) hb); have n1_ := zC.mk (zK (g := gb168) (o := .cells #[.int .i64 x169000_1, .int .i64 x169001_1] 50 (0, 0)) (by (with_reducible repeat (first | refine zE ?_ _ | refine zI ?_ | refine zD ?_ _)); exact BK168.out) hb); have n2_ := zC.mk (zL (by repeat (first | (with_reducible first | exact HB.out | apply zG | apply zA | apply zF | refine zH ?_ GE167.out | refine zH ?_ GE168.out) | exact HB.out)) hb); have n3_ := zC.mk (hbox); have n4_ := zC.mk ((by rw [hg]; exact (zM (by repeat (first | (with_reducible first | exact HB.out | apply zG | apply zA | apply zF | refine zH ?_ GE167.out | refine zH ?_ GE168.out) | exact HB.out))) : w.heap.size ≤ gb170)); have n5_ := n4_; have n6_ := zC.mk ((by rw [hg]; exact Nat.ne_of_lt (zV (by (with_reducible repeat (first | refine zE ?_ _ | refine zI ?_ | refine zD ?_ _)); exact BK167.out)) : gb167 ≠ gb170)); have n7_ := zC.mk n6_.out.symm; have n8_ := zC.mk ((by rw [hg]; exact Nat.ne_of_lt (zV (by (with_reducible repeat (first | refine zE ?_ _ | refine zI ?_ | refine zD ?_ _)); exact BK168.out)) : gb168 ≠ gb170)); have n9_ := zC.mk n8_.out.symm; clear BK167; clear BK168; clear HB; have BK167 := n0_; have BK168 := n1_; have HB := n2_; have BK170 := n3_; have GW170 := n4_; have GE170 := n5_; have NB167_170 := n6_; have NB170_167 := n7_; have NB168_170 := n8_; have NB170_168 := n9_; clear n0_ n1_ n2_ n3_ n4_ n5_ n6_ n7_ n8_ n9_; clear hb hbox hg; have hnb9 := NB170_167.out; have hnc9 := NB167_170.out; have hnb10 := NB170_168.out; have hnc10 := NB168_170.out; have hcz11_0 : w8.cell? ⟨gb170, 0, none⟩ = some (.int .i64 0) := zB BK170.out 0; have hcz11_1 : w8.cell? ⟨gb170, 1, none⟩ = some (.int .i64 0) := zB BK170.out 1; have hfz11_0 := zJ BK170.out 0; have hfz11_1 := zJ BK170.out 1))
     go_loopg [] k1 (fun kq w' => ∃ (x169000_2 : Int) (x169001_2 : Int) (x171000_2 : Int) (x171001_2 : Int), zC (yJ.l1 kq l0 x4_1 x5_1 x169000_2 x169001_2 x171000_2 x171001_2 = some (r1, r2, r3)) ∧ zC (kq ≤ k1) ∧ zC (w'.heap[gb167]? = some (.cells #[.int .i64 0, .int .i64 0, .int .i64 0] 30 (0, 0))) ∧ zC (w'.heap[gb168]? = some (.cells #[.int .i64 x169000_2, .int .i64 x169001_2] 50 (0, 0))) ∧ zC (w'.heap[gb170]? = some (.cells #[.int .i64 x171000_2, .int .i64 x171001_2] 50 (0, 0))) ∧ zC (Below w.heap.size w w'))
     case atStart => exact ⟨(x169000_1), (x169001_1), ((rd_T50 l0 x5_1).f0), ((rd_T50 l0 x5_1).f1), H', ⟨Nat.le_refl _⟩, ⟨by (with_reducible repeat (first | refine zE ?_ _ | refine zI ?_ | refine zD ?_ _)); refine zU ?_ NB167_170.out _; (with_reducible repeat (first | refine zE ?_ _ | refine zI ?_ | refine zD ?_ _)); refine zU ?_ NB167_170.out _; (with_reducible repeat (first | refine zE ?_ _ | refine zI ?_ | refine zD ?_ _)); exact BK167.out⟩, ⟨by (with_reducible repeat (first | refine zE ?_ _ | refine zI ?_ | refine zD ?_ _)); refine zU ?_ NB168_170.out _; (with_reducible repeat (first | refine zE ?_ _ | refine zI ?_ | refine zD ?_ _)); refine zU ?_ NB168_170.out _; (with_reducible repeat (first | refine zE ?_ _ | refine zI ?_ | refine zD ?_ _)); exact BK168.out⟩, ⟨by (with_reducible repeat (first | refine zE ?_ _ | refine zI ?_ | refine zD ?_ _)); refine zS (cs := #[.int .i64 ((rd_T50 l0 x5_1).f0), .int .i64 0]) ?_ 1 _ rfl; (with_reducible repeat (first | refine zE ?_ _ | refine zI ?_ | refine zD ?_ _)); refine zS (cs := #[.int .i64 0, .int .i64 0]) ?_ 0 _ rfl; (with_reducible repeat (first | refine zE ?_ _ | refine zI ?_ | refine zD ?_ _)); exact BK170.out⟩, ⟨by repeat (first | (with_reducible first | exact HB.out | apply zG | apply zA | apply zF | refine zH ?_ GE167.out | refine zH ?_ GE168.out | refine zH ?_ GE170.out) | exact HB.out)⟩⟩
     case round =>
      clear H'
      try clear c1
      try clear p1
      try clear q1
      try clear hx1
      try clear p2
      try clear c4
      try clear c6
      try clear c6b0
      try clear c7
      try clear c7b0
      try clear c9
      try clear c10
      try clear hcz11_0
      try clear hcz11_1
      try clear hcz5_0
      try clear hcz5_1
      try clear hfz11_0
      try clear hfz11_1
      try clear hfz5_0
      try clear hfz5_1
      try clear hx169_0
      try clear hx169_1
      try clear p169
      try clear p2
      try clear q169
      obtain ⟨x169000_2, x169001_2, x171000_2, x171001_2, HA, HK2, BK167, BK168, BK170, HB⟩ := hrel
      cases gk with
      | zero => exact absurd HA.out (by simp [yJ.l1])
      | succ k2 =>
       have H := HA.out
       clear HA
       simp only [yJ.l1] at H
       by_cases c12 : x171001_2 = 0
       ·
        rw [if_pos c12] at H
        have c12b0 : (x171001_2 == 0) = true := beq_iff_eq.mpr c12
        have c12b1 : (x171001_2 != 0) = false := bne_eq_false_iff_eq.mpr c12
        clear c12
        replace H := Option.bind_eq_some_iff.mp H
        obtain ⟨t172, A130, H⟩ := H
        replace H : (if t172 > 0 then ((xU.f x169000_2 t172).bind fun t173 => (yJ.l0 k2 l0 t172 (wrap64 (x5_1 + 1)) t173 x169001_2)) else (yJ.l0 k2 l0 t172 (wrap64 (x5_1 + 1)) x169000_2 x169001_2)) = some (r1, r2, r3) := H
        have A13 := zC.mk A130
        clear A130
        by_cases c14 : t172 > 0
        ·
         rw [if_pos c14] at H
         have c14b0 : decide (0 < t172) = true := decide_eq_true c14
         clear c14
         replace H := Option.bind_eq_some_iff.mp H
         obtain ⟨t173, A150, H⟩ := H
         replace H : (yJ.l0 k2 l0 t172 (wrap64 (x5_1 + 1)) t173 x169001_2) = some (r1, r2, r3) := H
         have A15 := zC.mk A150
         clear A150
         have H' := zC.mk H
         clear H
         have hnb16 := NB170_167.out
         have hnc16 := NB167_170.out
         have hnb17 := NB170_168.out
         have hnc17 := NB168_170.out
         have hcz18_0 : wr.cell? ⟨gb170, 0, none⟩ = some (.int .i64 x171000_2) := zB BK170.out 0
         have hcz18_1 : wr.cell? ⟨gb170, 1, none⟩ = some (.int .i64 x171001_2) := zB BK170.out 1
         have hfz18_0 := zJ BK170.out 0
         have hfz18_1 := zJ BK170.out 1
         go_wp2_with (first | ((with_reducible refine zP (f := 164) rfl ?_); refine zX (some 48) rfl rfl Try.func164 (by kernel_rfl) rfl #[.int .i64 x4_1, .int .i64 x171000_2] rfl (by (try simp only [List.map_toArray, List.map_cons, List.map_nil]); first | done | rfl) ?_; (with_reducible refine (xG.calls k2 x4_1 x171000_2 t172 _ A13.out).mono ?_); rintro e w19 ⟨rfl, hb⟩; refine ⟨_, rfl, ?_⟩; have n0_ := zC.mk (zK (g := gb167) (o := .cells #[.int .i64 0, .int .i64 0, .int .i64 0] 30 (0, 0)) (by (with_reducible repeat (first | refine zE ?_ _ | refine zI ?_ | refine zD ?_ _)); exact BK167.out) hb); have n1_ := zC.mk (zK (g := gb168) (o := .cells #[.int .i64 x169000_2, .int .i64 x169001_2] 50 (0, 0)) (by (with_reducible repeat (first | refine zE ?_ _ | refine zI ?_ | refine zD ?_ _)); exact BK168.out) hb); have n2_ := zC.mk (zK (g := gb170) (o := .cells #[.int .i64 x171000_2, .int .i64 x171001_2] 50 (0, 0)) (by (with_reducible repeat (first | refine zE ?_ _ | refine zI ?_ | refine zD ?_ _)); exact BK170.out) hb); have n3_ := zC.mk (zL (by repeat (first | (with_reducible first | exact HB.out | apply zG | apply zA | apply zF | refine zH ?_ GE167.out | refine zH ?_ GE168.out | refine zH ?_ GE170.out) | exact HB.out)) hb); clear BK167; clear BK168; clear BK170; clear HB; have BK167 := n0_; have BK168 := n1_; have BK170 := n2_; have HB := n3_; clear n0_ n1_ n2_ n3_; (try clear hb); have hnb20 := NB168_167.out; have hnc20 := NB167_168.out; have hcz21_0 : w19.cell? ⟨gb168, 0, none⟩ = some (.int .i64 x169000_2) := zB BK168.out 0; have hcz21_1 : w19.cell? ⟨gb168, 1, none⟩ = some (.int .i64 x169001_2) := zB BK168.out 1; have hfz21_0 := zJ BK168.out 0; have hfz21_1 := zJ BK168.out 1) | ((with_reducible refine zP (f := 93) rfl ?_); refine zX (some 54) rfl rfl Try.func93 (by kernel_rfl) rfl #[.int .i64 x169000_2, .int .i64 t172] rfl (by (try simp only [List.map_toArray, List.map_cons, List.map_nil]); first | done | rfl) ?_; (with_reducible refine (xU.calls x169000_2 t172 t173 _ A15.out).mono ?_); rintro e w' ⟨rfl, ⟨nd, rfl⟩⟩; refine ⟨_, rfl, ?_⟩; (try (rw [drewN_self w19]; generalize hq_ : World.drewN w19 _ = w19; have n0_ : zC (w19.heap[gb167]? = some (.cells #[.int .i64 0, .int .i64 0, .int .i64 0] 30 (0, 0))) := ⟨by rw [← hq_]; exact (by (with_reducible repeat (first | refine zE ?_ _ | refine zI ?_ | refine zD ?_ _)); exact BK167.out)⟩; have n1_ : zC (w19.heap[gb168]? = some (.cells #[.int .i64 x169000_2, .int .i64 x169001_2] 50 (0, 0))) := ⟨by rw [← hq_]; exact (by (with_reducible repeat (first | refine zE ?_ _ | refine zI ?_ | refine zD ?_ _)); exact BK168.out)⟩; have n2_ : zC (w19.heap[gb170]? = some (.cells #[.int .i64 x171000_2, .int .i64 x171001_2] 50 (0, 0))) := ⟨by rw [← hq_]; exact (by (with_reducible repeat (first | refine zE ?_ _ | refine zI ?_ | refine zD ?_ _)); exact BK170.out)⟩; have n3_ : zC (Below w.heap.size w w19) := ⟨by rw [← hq_]; exact (by repeat (first | (with_reducible first | exact HB.out | apply zG | apply zA | apply zF | refine zH ?_ GE167.out | refine zH ?_ GE168.out | refine zH ?_ GE170.out) | exact HB.out))⟩; clear BK167 BK168 BK170 HB hq_; have BK167 := n0_; have BK168 := n1_; have BK170 := n2_; have HB := n3_; clear n0_ n1_ n2_ n3_)); have hcz22_0 : w19.cell? ⟨gb168, 0, none⟩ = some (.int .i64 x169000_2) := zB BK168.out 0; have hcz22_1 : w19.cell? ⟨gb168, 1, none⟩ = some (.int .i64 x169001_2) := zB BK168.out 1; have hfz22_0 := zJ BK168.out 0; have hfz22_1 := zJ BK168.out 1))
         go_roundg k2
         case measure => have := HK1.out; have := HK2.out; omega
         case rel => exact ⟨(t172), (wrap64 (x5_1 + 1)), (t173), (x169001_2), (by first | rfl | (simp; done) | (simp [*]; done)), (by first | rfl | (simp; done) | (simp [*]; done)), H', ⟨by have := HK1.out; have := HK2.out; omega⟩, ⟨by (with_reducible repeat (first | refine zE ?_ _ | refine zI ?_ | refine zD ?_ _)); refine zU ?_ NB167_168.out _; (with_reducible repeat (first | refine zE ?_ _ | refine zI ?_ | refine zD ?_ _)); exact BK167.out⟩, ⟨by (with_reducible repeat (first | refine zE ?_ _ | refine zI ?_ | refine zD ?_ _)); refine zS (cs := #[.int .i64 x169000_2, .int .i64 x169001_2]) ?_ 0 _ rfl; (with_reducible repeat (first | refine zE ?_ _ | refine zI ?_ | refine zD ?_ _)); exact BK168.out⟩, ⟨by repeat (first | (with_reducible first | exact HB.out | apply zG | apply zA | apply zF | refine zH ?_ GE167.out | refine zH ?_ GE168.out | refine zH ?_ GE170.out) | exact HB.out)⟩⟩
        ·
         rw [if_neg c14] at H
         have c14b0 : decide (0 < t172) = false := decide_eq_false c14
         clear c14
         have H' := zC.mk H
         clear H
         have hnb23 := NB170_167.out
         have hnc23 := NB167_170.out
         have hnb24 := NB170_168.out
         have hnc24 := NB168_170.out
         have hcz25_0 : wr.cell? ⟨gb170, 0, none⟩ = some (.int .i64 x171000_2) := zB BK170.out 0
         have hcz25_1 : wr.cell? ⟨gb170, 1, none⟩ = some (.int .i64 x171001_2) := zB BK170.out 1
         have hfz25_0 := zJ BK170.out 0
         have hfz25_1 := zJ BK170.out 1
         go_wp2_with (first | ((with_reducible refine zP (f := 164) rfl ?_); refine zX (some 48) rfl rfl Try.func164 (by kernel_rfl) rfl #[.int .i64 x4_1, .int .i64 x171000_2] rfl (by (try simp only [List.map_toArray, List.map_cons, List.map_nil]); first | done | rfl) ?_; (with_reducible refine (xG.calls k2 x4_1 x171000_2 t172 _ A13.out).mono ?_); rintro e w26 ⟨rfl, hb⟩; refine ⟨_, rfl, ?_⟩; have n0_ := zC.mk (zK (g := gb167) (o := .cells #[.int .i64 0, .int .i64 0, .int .i64 0] 30 (0, 0)) (by (with_reducible repeat (first | refine zE ?_ _ | refine zI ?_ | refine zD ?_ _)); exact BK167.out) hb); have n1_ := zC.mk (zK (g := gb168) (o := .cells #[.int .i64 x169000_2, .int .i64 x169001_2] 50 (0, 0)) (by (with_reducible repeat (first | refine zE ?_ _ | refine zI ?_ | refine zD ?_ _)); exact BK168.out) hb); have n2_ := zC.mk (zK (g := gb170) (o := .cells #[.int .i64 x171000_2, .int .i64 x171001_2] 50 (0, 0)) (by (with_reducible repeat (first | refine zE ?_ _ | refine zI ?_ | refine zD ?_ _)); exact BK170.out) hb); have n3_ := zC.mk (zL (by repeat (first | (with_reducible first | exact HB.out | apply zG | apply zA | apply zF | refine zH ?_ GE167.out | refine zH ?_ GE168.out | refine zH ?_ GE170.out) | exact HB.out)) hb); clear BK167; clear BK168; clear BK170; clear HB; have BK167 := n0_; have BK168 := n1_; have BK170 := n2_; have HB := n3_; clear n0_ n1_ n2_ n3_; (try clear hb)))
         go_roundg k2
         case measure => have := HK1.out; have := HK2.out; omega
         case rel => exact ⟨(t172), (wrap64 (x5_1 + 1)), (x169000_2), (x169001_2), (by first | rfl | (simp; done) | (simp [*]; done)), (by first | rfl | (simp; done) | (simp [*]; done)), H', ⟨by have := HK1.out; have := HK2.out; omega⟩, ⟨by (with_reducible repeat (first | refine zE ?_ _ | refine zI ?_ | refine zD ?_ _)); exact BK167.out⟩, ⟨by (with_reducible repeat (first | refine zE ?_ _ | refine zI ?_ | refine zD ?_ _)); exact BK168.out⟩, ⟨by repeat (first | (with_reducible first | exact HB.out | apply zG | apply zA | apply zF | refine zH ?_ GE167.out | refine zH ?_ GE168.out | refine zH ?_ GE170.out) | exact HB.out)⟩⟩
       ·
        rw [if_neg c12] at H
        have c12b0 : (x171001_2 == 0) = false := beq_eq_false_iff_ne.mpr c12
        have c12b1 : (x171001_2 != 0) = true := bne_iff_ne.mpr c12
        have H' := zC.mk H
        clear H
        have hnb27 := NB170_167.out
        have hnc27 := NB167_170.out
        have hnb28 := NB170_168.out
        have hnc28 := NB168_170.out
        have hcz29_0 : wr.cell? ⟨gb170, 0, none⟩ = some (.int .i64 x171000_2) := zB BK170.out 0
        have hcz29_1 : wr.cell? ⟨gb170, 1, none⟩ = some (.int .i64 x171001_2) := zB BK170.out 1
        have hfz29_0 := zJ BK170.out 0
        have hfz29_1 := zJ BK170.out 1
        have hnb30 := NB168_167.out
        have hnc30 := NB167_168.out
        have hcz31_0 : wr.cell? ⟨gb168, 0, none⟩ = some (.int .i64 x169000_2) := zB BK168.out 0
        have hcz31_1 : wr.cell? ⟨gb168, 1, none⟩ = some (.int .i64 x169001_2) := zB BK168.out 1
        have hfz31_0 := zJ BK168.out 0
        have hfz31_1 := zJ BK168.out 1
        go_wp2_with (first | ((with_reducible refine zQ (N := 8) rfl ?_); refine zO ?hg (N := 8) ?hd (cs := #[.int .i64 0, .int .i64 0]) (t := 50) ?hr ?_; (case hd => rfl); (case hg => rfl); (case hr => first | (go_simp; done) | (go_simp; rfl)); intro gb171 hg w32 hbox hb; have n0_ := zC.mk (zK (g := gb167) (o := .cells #[.int .i64 0, .int .i64 0, .int .i64 0] 30 (0, 0)) (by (with_reducible repeat (first | refine zE ?_ _ | refine zI ?_ | refine zD ?_ _)); exact BK167.out) hb); have n1_ := zC.mk (zK (g := gb168) (o := .cells #[.int .i64 x169000_2, .int .i64 x169001_2] 50 (0, 0)) (by (with_reducible repeat (first | refine zE ?_ _ | refine zI ?_ | refine zD ?_ _)); exact BK168.out) hb); have n2_ := zC.mk (zK (g := gb170) (o := .cells #[.int .i64 x171000_2, .int .i64 x171001_2] 50 (0, 0)) (by (with_reducible repeat (first | refine zE ?_ _ | refine zI ?_ | refine zD ?_ _)); exact BK170.out) hb); have n3_ := zC.mk (zL (by repeat (first | (with_reducible first | exact HB.out | apply zG | apply zA | apply zF | refine zH ?_ GE167.out | refine zH ?_ GE168.out | refine zH ?_ GE170.out) | exact HB.out)) hb); have n4_ := zC.mk (hbox); have n5_ := zC.mk ((by rw [hg]; exact (zM (by repeat (first | (with_reducible first | exact HB.out | apply zG | apply zA | apply zF | refine zH ?_ GE167.out | refine zH ?_ GE168.out | refine zH ?_ GE170.out) | exact HB.out))) : w.heap.size ≤ gb171)); have n6_ := n5_; have n7_ := zC.mk ((by rw [hg]; exact Nat.ne_of_lt (zV (by (with_reducible repeat (first | refine zE ?_ _ | refine zI ?_ | refine zD ?_ _)); exact BK167.out)) : gb167 ≠ gb171)); have n8_ := zC.mk n7_.out.symm; have n9_ := zC.mk ((by rw [hg]; exact Nat.ne_of_lt (zV (by (with_reducible repeat (first | refine zE ?_ _ | refine zI ?_ | refine zD ?_ _)); exact BK168.out)) : gb168 ≠ gb171)); have n10_ := zC.mk n9_.out.symm; have n11_ := zC.mk ((by rw [hg]; exact Nat.ne_of_lt (zV (by (with_reducible repeat (first | refine zE ?_ _ | refine zI ?_ | refine zD ?_ _)); exact BK170.out)) : gb170 ≠ gb171)); have n12_ := zC.mk n11_.out.symm; clear BK167; clear BK168; clear BK170; clear HB; have BK167 := n0_; have BK168 := n1_; have BK170 := n2_; have HB := n3_; have BK171 := n4_; have GW171 := n5_; have GE171 := n6_; have NB167_171 := n7_; have NB171_167 := n8_; have NB168_171 := n9_; have NB171_168 := n10_; have NB170_171 := n11_; have NB171_170 := n12_; clear n0_ n1_ n2_ n3_ n4_ n5_ n6_ n7_ n8_ n9_ n10_ n11_ n12_; clear hb hbox hg; have hnb33 := NB171_167.out; have hnc33 := NB167_171.out; have hnb34 := NB171_168.out; have hnc34 := NB168_171.out; have hnb35 := NB171_170.out; have hnc35 := NB170_171.out; have hcz36_0 : w32.cell? ⟨gb171, 0, none⟩ = some (.int .i64 0) := zB BK171.out 0; have hcz36_1 : w32.cell? ⟨gb171, 1, none⟩ = some (.int .i64 0) := zB BK171.out 1; have hfz36_0 := zJ BK171.out 0; have hfz36_1 := zJ BK171.out 1; have hcz37_0 : w32.cell? ⟨gb170, 0, none⟩ = some (.int .i64 x171000_2) := zB BK170.out 0; have hcz37_1 : w32.cell? ⟨gb170, 1, none⟩ = some (.int .i64 x171001_2) := zB BK170.out 1; have hfz37_0 := zJ BK170.out 0; have hfz37_1 := zJ BK170.out 1; have hcz38_0 : w32.cell? ⟨gb168, 0, none⟩ = some (.int .i64 x169000_2) := zB BK168.out 0; have hcz38_1 : w32.cell? ⟨gb168, 1, none⟩ = some (.int .i64 x169001_2) := zB BK168.out 1; have hfz38_0 := zJ BK168.out 0; have hfz38_1 := zJ BK168.out 1))
        go_roundg k2
        case measure => have := HK1.out; have := HK2.out; omega
        case rel => exact ⟨(x171000_2), (x171001_2), (wrap64 (x169000_2 - (wrap64 ((wrap64 (Int.tdiv x169001_2 x171001_2)) * x171000_2)))), (wrap64 (x169001_2 - (wrap64 ((wrap64 (Int.tdiv x169001_2 x171001_2)) * x171001_2)))), H', ⟨by have := HK1.out; have := HK2.out; omega⟩, ⟨by (with_reducible repeat (first | refine zE ?_ _ | refine zI ?_ | refine zD ?_ _)); refine zU ?_ NB167_170.out _; (with_reducible repeat (first | refine zE ?_ _ | refine zI ?_ | refine zD ?_ _)); refine zU ?_ NB167_170.out _; (with_reducible repeat (first | refine zE ?_ _ | refine zI ?_ | refine zD ?_ _)); refine zU ?_ NB167_168.out _; (with_reducible repeat (first | refine zE ?_ _ | refine zI ?_ | refine zD ?_ _)); refine zU ?_ NB167_168.out _; (with_reducible repeat (first | refine zE ?_ _ | refine zI ?_ | refine zD ?_ _)); refine zU ?_ NB167_171.out _; (with_reducible repeat (first | refine zE ?_ _ | refine zI ?_ | refine zD ?_ _)); refine zU ?_ NB167_171.out _; (with_reducible repeat (first | refine zE ?_ _ | refine zI ?_ | refine zD ?_ _)); exact BK167.out⟩, ⟨by (with_reducible repeat (first | refine zE ?_ _ | refine zI ?_ | refine zD ?_ _)); refine zU ?_ NB168_170.out _; (with_reducible repeat (first | refine zE ?_ _ | refine zI ?_ | refine zD ?_ _)); refine zU ?_ NB168_170.out _; (with_reducible repeat (first | refine zE ?_ _ | refine zI ?_ | refine zD ?_ _)); refine zS (cs := #[.int .i64 x171000_2, .int .i64 x169001_2]) ?_ 1 _ rfl; (with_reducible repeat (first | refine zE ?_ _ | refine zI ?_ | refine zD ?_ _)); refine zS (cs := #[.int .i64 x169000_2, .int .i64 x169001_2]) ?_ 0 _ rfl; (with_reducible repeat (first | refine zE ?_ _ | refine zI ?_ | refine zD ?_ _)); refine zU ?_ NB168_171.out _; (with_reducible repeat (first | refine zE ?_ _ | refine zI ?_ | refine zD ?_ _)); refine zU ?_ NB168_171.out _; (with_reducible repeat (first | refine zE ?_ _ | refine zI ?_ | refine zD ?_ _)); exact BK168.out⟩, ⟨by (with_reducible repeat (first | refine zE ?_ _ | refine zI ?_ | refine zD ?_ _)); refine zS (cs := #[.int .i64 (wrap64 (x169000_2 - (wrap64 ((wrap64 (Int.tdiv x169001_2 x171001_2)) * x171000_2)))), .int .i64 x171001_2]) ?_ 1 _ rfl; (with_reducible repeat (first | refine zE ?_ _ | refine zI ?_ | refine zD ?_ _)); refine zS (cs := #[.int .i64 x171000_2, .int .i64 x171001_2]) ?_ 0 _ rfl; (with_reducible repeat (first | refine zE ?_ _ | refine zI ?_ | refine zD ?_ _)); refine zU ?_ NB170_168.out _; (with_reducible repeat (first | refine zE ?_ _ | refine zI ?_ | refine zD ?_ _)); refine zU ?_ NB170_168.out _; (with_reducible repeat (first | refine zE ?_ _ | refine zI ?_ | refine zD ?_ _)); refine zU ?_ NB170_171.out _; (with_reducible repeat (first | refine zE ?_ _ | refine zI ?_ | refine zD ?_ _)); refine zU ?_ NB170_171.out _; (with_reducible repeat (first | refine zE ?_ _ | refine zI ?_ | refine zD ?_ _)); exact BK170.out⟩, ⟨by repeat (first | (with_reducible first | exact HB.out | apply zG | apply zA | apply zF | refine zH ?_ GE167.out | refine zH ?_ GE168.out | refine zH ?_ GE170.out | refine zH ?_ GE171.out) | exact HB.out)⟩⟩
    ·
     rw [if_neg c7] at H
     exact absurd H (by simp)
   ·
    rw [if_neg c6] at H
    have c6b0 : decide (x5_1 < (l0.length : Int)) = false := decide_eq_false c6
    clear c6
    by_cases c39 : x169001_1 < 0
    ·
     rw [if_pos c39] at H
     have c39b0 : decide (x169001_1 < 0) = true := decide_eq_true c39
     clear c39
     replace H := Option.bind_eq_some_iff.mp H
     obtain ⟨⟨t174, t175⟩, A400, H⟩ := H
     replace H : (if x4_1 > 0 then ((xU.f t174 x4_1).bind fun t176 => (some (x4_1, t176, t175))) else (some (x4_1, t174, t175))) = some (r1, r2, r3) := H
     have A40 := zC.mk A400
     clear A400
     by_cases c41 : x4_1 > 0
     ·
      rw [if_pos c41] at H
      have c41b0 : decide (0 < x4_1) = true := decide_eq_true c41
      clear c41
      replace H := Option.bind_eq_some_iff.mp H
      obtain ⟨t176, A420, H⟩ := H
      replace H : (some (x4_1, t176, t175)) = some (r1, r2, r3) := H
      have A42 := zC.mk A420
      clear A420
      simp only [Option.some.injEq, Prod.mk.injEq] at H
      obtain ⟨rfl, rfl, rfl⟩ := H
      have hnb43 := NB168_167.out
      have hnc43 := NB167_168.out
      have hcz44_0 : wr.cell? ⟨gb168, 0, none⟩ = some (.int .i64 x169000_1) := zB BK168.out 0
      have hcz44_1 : wr.cell? ⟨gb168, 1, none⟩ = some (.int .i64 x169001_1) := zB BK168.out 1
      have hfz44_0 := zJ BK168.out 0
      have hfz44_1 := zJ BK168.out 1
      go_wp2_with (first | ((with_reducible refine zP (f := 165) rfl ?_); refine zX (some 60) rfl rfl Try.func165 (by kernel_rfl) rfl #[.agg #[.int .i64 x169000_1, .int .i64 x169001_1], .int .i64 (-1)] rfl (by (try simp only [List.map_toArray, List.map_cons, List.map_nil]); first | done | rfl) ?_; (with_reducible refine (wV.calls x169000_1 x169001_1 (-1) t174 t175 _ A40.out).mono ?_); rintro e w45 ⟨rfl, hb⟩; refine ⟨_, rfl, ?_⟩; have n0_ := zC.mk (zK (g := gb167) (o := .cells #[.int .i64 0, .int .i64 0, .int .i64 0] 30 (0, 0)) (by (with_reducible repeat (first | refine zE ?_ _ | refine zI ?_ | refine zD ?_ _)); exact BK167.out) hb); have n1_ := zC.mk (zK (g := gb168) (o := .cells #[.int .i64 x169000_1, .int .i64 x169001_1] 50 (0, 0)) (by (with_reducible repeat (first | refine zE ?_ _ | refine zI ?_ | refine zD ?_ _)); exact BK168.out) hb); have n2_ := zC.mk (zL (by repeat (first | (with_reducible first | exact HB.out | apply zG | apply zA | apply zF | refine zH ?_ GE167.out | refine zH ?_ GE168.out) | exact HB.out)) hb); clear BK167; clear BK168; clear HB; have BK167 := n0_; have BK168 := n1_; have HB := n2_; clear n0_ n1_ n2_; (try clear hb); have hcz46_0 : w45.cell? ⟨gb168, 0, none⟩ = some (.int .i64 x169000_1) := zB BK168.out 0; have hcz46_1 : w45.cell? ⟨gb168, 1, none⟩ = some (.int .i64 x169001_1) := zB BK168.out 1; have hfz46_0 := zJ BK168.out 0; have hfz46_1 := zJ BK168.out 1) | ((with_reducible refine zP (f := 93) rfl ?_); refine zX (some 66) rfl rfl Try.func93 (by kernel_rfl) rfl #[.int .i64 t174, .int .i64 x4_1] rfl (by (try simp only [List.map_toArray, List.map_cons, List.map_nil]); first | done | rfl) ?_; (with_reducible refine (xU.calls t174 x4_1 t176 _ A42.out).mono ?_); rintro e w' ⟨rfl, ⟨nd, rfl⟩⟩; refine ⟨_, rfl, ?_⟩; have hcz47_0 : w45.cell? ⟨gb167, 0, none⟩ = some (.int .i64 0) := zB BK167.out 0; have hcz47_1 : w45.cell? ⟨gb167, 1, none⟩ = some (.int .i64 0) := zB BK167.out 1; have hcz47_2 : w45.cell? ⟨gb167, 2, none⟩ = some (.int .i64 0) := zB BK167.out 2; have hfz47_0 := zJ BK167.out 0; have hfz47_1 := zJ BK167.out 1; have hfz47_2 := zJ BK167.out 2))
      refine bodyPost_ret (results_cell_row rfl _ _ gb167 30 #[.int .i64 x4_1, .int .i64 t176, .int .i64 t175] (0, 0) _ rfl (by (with_reducible repeat (first | refine zE ?_ _ | refine zI ?_ | refine zD ?_ _)); refine zS (cs := #[.int .i64 x4_1, .int .i64 t176, .int .i64 0]) ?_ 2 _ rfl; (with_reducible repeat (first | refine zE ?_ _ | refine zI ?_ | refine zD ?_ _)); refine zS (cs := #[.int .i64 x4_1, .int .i64 0, .int .i64 0]) ?_ 1 _ rfl; (with_reducible repeat (first | refine zE ?_ _ | refine zI ?_ | refine zD ?_ _)); refine zS (cs := #[.int .i64 0, .int .i64 0, .int .i64 0]) ?_ 0 _ rfl; (with_reducible repeat (first | refine zE ?_ _ | refine zI ?_ | refine zD ?_ _)); refine zU ?_ NB167_168.out _; (with_reducible repeat (first | refine zE ?_ _ | refine zI ?_ | refine zD ?_ _)); refine zU ?_ NB167_168.out _; (with_reducible repeat (first | refine zE ?_ _ | refine zI ?_ | refine zD ?_ _)); refine zU ?_ NB167_168.out _; (with_reducible repeat (first | refine zE ?_ _ | refine zI ?_ | refine zD ?_ _)); exact BK167.out) Try.underlying30 rfl (by kernel_rfl)) rfl ?_
      exact ⟨by first | rfl | (simp [*, errW_none, errW_some] <;> rfl), by repeat (first | (with_reducible first | exact HB.out | apply zG | apply zA | apply zF | refine zH ?_ GE167.out | refine zH ?_ GE168.out) | exact HB.out)⟩
     ·
      rw [if_neg c41] at H
      have c41b0 : decide (0 < x4_1) = false := decide_eq_false c41
      clear c41
      simp only [Option.some.injEq, Prod.mk.injEq] at H
      obtain ⟨rfl, rfl, rfl⟩ := H
      have hnb48 := NB168_167.out
      have hnc48 := NB167_168.out
      have hcz49_0 : wr.cell? ⟨gb168, 0, none⟩ = some (.int .i64 x169000_1) := zB BK168.out 0
      have hcz49_1 : wr.cell? ⟨gb168, 1, none⟩ = some (.int .i64 x169001_1) := zB BK168.out 1
      have hfz49_0 := zJ BK168.out 0
      have hfz49_1 := zJ BK168.out 1
      go_wp2_with (first | ((with_reducible refine zP (f := 165) rfl ?_); refine zX (some 60) rfl rfl Try.func165 (by kernel_rfl) rfl #[.agg #[.int .i64 x169000_1, .int .i64 x169001_1], .int .i64 (-1)] rfl (by (try simp only [List.map_toArray, List.map_cons, List.map_nil]); first | done | rfl) ?_; (with_reducible refine (wV.calls x169000_1 x169001_1 (-1) t174 t175 _ A40.out).mono ?_); rintro e w50 ⟨rfl, hb⟩; refine ⟨_, rfl, ?_⟩; have n0_ := zC.mk (zK (g := gb167) (o := .cells #[.int .i64 0, .int .i64 0, .int .i64 0] 30 (0, 0)) (by (with_reducible repeat (first | refine zE ?_ _ | refine zI ?_ | refine zD ?_ _)); exact BK167.out) hb); have n1_ := zC.mk (zK (g := gb168) (o := .cells #[.int .i64 x169000_1, .int .i64 x169001_1] 50 (0, 0)) (by (with_reducible repeat (first | refine zE ?_ _ | refine zI ?_ | refine zD ?_ _)); exact BK168.out) hb); have n2_ := zC.mk (zL (by repeat (first | (with_reducible first | exact HB.out | apply zG | apply zA | apply zF | refine zH ?_ GE167.out | refine zH ?_ GE168.out) | exact HB.out)) hb); clear BK167; clear BK168; clear HB; have BK167 := n0_; have BK168 := n1_; have HB := n2_; clear n0_ n1_ n2_; (try clear hb); have hcz51_0 : w50.cell? ⟨gb168, 0, none⟩ = some (.int .i64 x169000_1) := zB BK168.out 0; have hcz51_1 : w50.cell? ⟨gb168, 1, none⟩ = some (.int .i64 x169001_1) := zB BK168.out 1; have hfz51_0 := zJ BK168.out 0; have hfz51_1 := zJ BK168.out 1; have hcz52_0 : w50.cell? ⟨gb167, 0, none⟩ = some (.int .i64 0) := zB BK167.out 0; have hcz52_1 : w50.cell? ⟨gb167, 1, none⟩ = some (.int .i64 0) := zB BK167.out 1; have hcz52_2 : w50.cell? ⟨gb167, 2, none⟩ = some (.int .i64 0) := zB BK167.out 2; have hfz52_0 := zJ BK167.out 0; have hfz52_1 := zJ BK167.out 1; have hfz52_2 := zJ BK167.out 2))
      refine bodyPost_ret (results_cell_row rfl _ _ gb167 30 #[.int .i64 x4_1, .int .i64 t174, .int .i64 t175] (0, 0) _ rfl (by (with_reducible repeat (first | refine zE ?_ _ | refine zI ?_ | refine zD ?_ _)); refine zS (cs := #[.int .i64 x4_1, .int .i64 t174, .int .i64 0]) ?_ 2 _ rfl; (with_reducible repeat (first | refine zE ?_ _ | refine zI ?_ | refine zD ?_ _)); refine zS (cs := #[.int .i64 x4_1, .int .i64 0, .int .i64 0]) ?_ 1 _ rfl; (with_reducible repeat (first | refine zE ?_ _ | refine zI ?_ | refine zD ?_ _)); refine zS (cs := #[.int .i64 0, .int .i64 0, .int .i64 0]) ?_ 0 _ rfl; (with_reducible repeat (first | refine zE ?_ _ | refine zI ?_ | refine zD ?_ _)); refine zU ?_ NB167_168.out _; (with_reducible repeat (first | refine zE ?_ _ | refine zI ?_ | refine zD ?_ _)); refine zU ?_ NB167_168.out _; (with_reducible repeat (first | refine zE ?_ _ | refine zI ?_ | refine zD ?_ _)); exact BK167.out) Try.underlying30 rfl (by kernel_rfl)) rfl ?_
      exact ⟨by first | rfl | (simp [*, errW_none, errW_some] <;> rfl), by repeat (first | (with_reducible first | exact HB.out | apply zG | apply zA | apply zF | refine zH ?_ GE167.out | refine zH ?_ GE168.out) | exact HB.out)⟩
    ·
     rw [if_neg c39] at H
     have c39b0 : decide (x169001_1 < 0) = false := decide_eq_false c39
     clear c39
     by_cases c53 : x4_1 > 0
     ·
      rw [if_pos c53] at H
      have c53b0 : decide (0 < x4_1) = true := decide_eq_true c53
      clear c53
      replace H := Option.bind_eq_some_iff.mp H
      obtain ⟨t177, A540, H⟩ := H
      replace H : (some (x4_1, t177, x169001_1)) = some (r1, r2, r3) := H
      have A54 := zC.mk A540
      clear A540
      simp only [Option.some.injEq, Prod.mk.injEq] at H
      obtain ⟨rfl, rfl, rfl⟩ := H
      have hnb55 := NB168_167.out
      have hnc55 := NB167_168.out
      have hcz56_0 : wr.cell? ⟨gb168, 0, none⟩ = some (.int .i64 x169000_1) := zB BK168.out 0
      have hcz56_1 : wr.cell? ⟨gb168, 1, none⟩ = some (.int .i64 x169001_1) := zB BK168.out 1
      have hfz56_0 := zJ BK168.out 0
      have hfz56_1 := zJ BK168.out 1
      go_wp2_with (first | ((with_reducible refine zP (f := 93) rfl ?_); refine zX (some 66) rfl rfl Try.func93 (by kernel_rfl) rfl #[.int .i64 x169000_1, .int .i64 x4_1] rfl (by (try simp only [List.map_toArray, List.map_cons, List.map_nil]); first | done | rfl) ?_; (with_reducible refine (xU.calls x169000_1 x4_1 t177 _ A54.out).mono ?_); rintro e w' ⟨rfl, ⟨nd, rfl⟩⟩; refine ⟨_, rfl, ?_⟩; (try (rw [drewN_self wr]; generalize hq_ : World.drewN wr _ = wr; have n0_ : zC (wr.heap[gb167]? = some (.cells #[.int .i64 0, .int .i64 0, .int .i64 0] 30 (0, 0))) := ⟨by rw [← hq_]; exact (by (with_reducible repeat (first | refine zE ?_ _ | refine zI ?_ | refine zD ?_ _)); exact BK167.out)⟩; have n1_ : zC (wr.heap[gb168]? = some (.cells #[.int .i64 x169000_1, .int .i64 x169001_1] 50 (0, 0))) := ⟨by rw [← hq_]; exact (by (with_reducible repeat (first | refine zE ?_ _ | refine zI ?_ | refine zD ?_ _)); exact BK168.out)⟩; have n2_ : zC (Below w.heap.size w wr) := ⟨by rw [← hq_]; exact (by repeat (first | (with_reducible first | exact HB.out | apply zG | apply zA | apply zF | refine zH ?_ GE167.out | refine zH ?_ GE168.out) | exact HB.out))⟩; clear BK167 BK168 HB hq_; have BK167 := n0_; have BK168 := n1_; have HB := n2_; clear n0_ n1_ n2_)); have hcz57_0 : wr.cell? ⟨gb168, 0, none⟩ = some (.int .i64 x169000_1) := zB BK168.out 0; have hcz57_1 : wr.cell? ⟨gb168, 1, none⟩ = some (.int .i64 x169001_1) := zB BK168.out 1; have hfz57_0 := zJ BK168.out 0; have hfz57_1 := zJ BK168.out 1; have hcz58_0 : wr.cell? ⟨gb167, 0, none⟩ = some (.int .i64 0) := zB BK167.out 0; have hcz58_1 : wr.cell? ⟨gb167, 1, none⟩ = some (.int .i64 0) := zB BK167.out 1; have hcz58_2 : wr.cell? ⟨gb167, 2, none⟩ = some (.int .i64 0) := zB BK167.out 2; have hfz58_0 := zJ BK167.out 0; have hfz58_1 := zJ BK167.out 1; have hfz58_2 := zJ BK167.out 2))
      refine bodyPost_ret (results_cell_row rfl _ _ gb167 30 #[.int .i64 x4_1, .int .i64 t177, .int .i64 x169001_1] (0, 0) _ rfl (by (with_reducible repeat (first | refine zE ?_ _ | refine zI ?_ | refine zD ?_ _)); refine zS (cs := #[.int .i64 x4_1, .int .i64 t177, .int .i64 0]) ?_ 2 _ rfl; (with_reducible repeat (first | refine zE ?_ _ | refine zI ?_ | refine zD ?_ _)); refine zS (cs := #[.int .i64 x4_1, .int .i64 0, .int .i64 0]) ?_ 1 _ rfl; (with_reducible repeat (first | refine zE ?_ _ | refine zI ?_ | refine zD ?_ _)); refine zS (cs := #[.int .i64 0, .int .i64 0, .int .i64 0]) ?_ 0 _ rfl; (with_reducible repeat (first | refine zE ?_ _ | refine zI ?_ | refine zD ?_ _)); refine zU ?_ NB167_168.out _; (with_reducible repeat (first | refine zE ?_ _ | refine zI ?_ | refine zD ?_ _)); exact BK167.out) Try.underlying30 rfl (by kernel_rfl)) rfl ?_
      exact ⟨by first | rfl | (simp [*, errW_none, errW_some] <;> rfl), by repeat (first | (with_reducible first | exact HB.out | apply zG | apply zA | apply zF | refine zH ?_ GE167.out | refine zH ?_ GE168.out) | exact HB.out)⟩
     ·
      rw [if_neg c53] at H
      have c53b0 : decide (0 < x4_1) = false := decide_eq_false c53
      clear c53
      simp only [Option.some.injEq, Prod.mk.injEq] at H
      obtain ⟨rfl, rfl, rfl⟩ := H
      have hnb59 := NB168_167.out
      have hnc59 := NB167_168.out
      have hcz60_0 : wr.cell? ⟨gb168, 0, none⟩ = some (.int .i64 x169000_1) := zB BK168.out 0
      have hcz60_1 : wr.cell? ⟨gb168, 1, none⟩ = some (.int .i64 x169001_1) := zB BK168.out 1
      have hfz60_0 := zJ BK168.out 0
      have hfz60_1 := zJ BK168.out 1
      have hcz61_0 : wr.cell? ⟨gb167, 0, none⟩ = some (.int .i64 0) := zB BK167.out 0
      have hcz61_1 : wr.cell? ⟨gb167, 1, none⟩ = some (.int .i64 0) := zB BK167.out 1
      have hcz61_2 : wr.cell? ⟨gb167, 2, none⟩ = some (.int .i64 0) := zB BK167.out 2
      have hfz61_0 := zJ BK167.out 0
      have hfz61_1 := zJ BK167.out 1
      have hfz61_2 := zJ BK167.out 2
      go_wp2
      refine bodyPost_ret (results_cell_row rfl _ _ gb167 30 #[.int .i64 x4_1, .int .i64 x169000_1, .int .i64 x169001_1] (0, 0) _ rfl (by (with_reducible repeat (first | refine zE ?_ _ | refine zI ?_ | refine zD ?_ _)); refine zS (cs := #[.int .i64 x4_1, .int .i64 x169000_1, .int .i64 0]) ?_ 2 _ rfl; (with_reducible repeat (first | refine zE ?_ _ | refine zI ?_ | refine zD ?_ _)); refine zS (cs := #[.int .i64 x4_1, .int .i64 0, .int .i64 0]) ?_ 1 _ rfl; (with_reducible repeat (first | refine zE ?_ _ | refine zI ?_ | refine zD ?_ _)); refine zS (cs := #[.int .i64 0, .int .i64 0, .int .i64 0]) ?_ 0 _ rfl; (with_reducible repeat (first | refine zE ?_ _ | refine zI ?_ | refine zD ?_ _)); exact BK167.out) Try.underlying30 rfl (by kernel_rfl)) rfl ?_
      exact ⟨by first | rfl | (simp [*, errW_none, errW_some] <;> rfl), by repeat (first | (with_reducible first | exact HB.out | apply zG | apply zA | apply zF | refine zH ?_ GE167.out | refine zH ?_ GE168.out) | exact HB.out)⟩
def yX.T6 : Bool × List (List Nat × List Nat) := (true, [([], []), ([], []), ([], []), ([], []), ([2, 3], [2, 3]), ([4], [4]), ([1, 5], [1, 5]), ([0, 6, 1], [0, 6])])
def yX.B6 : List Nat := [0, 0, 0, 0, 12, 28, 62, 127]
theorem yX.tab6 : rtab .any (opsOf Try.f91 6) = yX.T6 := by kernel_rfl
theorem yX.bits6 : waitsOk yX.T6.2 yX.B6 = true := by kernel_rfl
theorem yX.calls (k : Nat) (a0_0 : Int) (a0_1 : Int) (a0_2 : Int) (a0_3 : Int) (A0_4 : Option Addr) (c0_4 : Nat) (l0_4 : List Int) (r1 : Int) (r2 : Int) (r3 : Int) (w : World) (hr0_4 : Kd.C (Kd.int .i64) w A0_4 l0_4.length l0_4) (hc0_4 : l0_4.length ≤ c0_4) (h : yX.f k a0_0 a0_1 a0_2 a0_3 l0_4 = some (r1, r2, r3)) :
  Calls Try.prog 91 #[.agg #[.int .i64 a0_0, .int .i64 a0_1, .int .i64 a0_2, .int .i64 a0_3, .slice A0_4 l0_4.length c0_4]] w fun e w' => e = .returned (.agg #[.int .i64 r1, .int .i64 r2, .int .i64 r3]) ∧ Below w.heap.size w w' := by
 have hu32 := Try.underlying32
 have hu30 := Try.underlying30
 have hu50 := Try.underlying50
 have hu52 := Try.underlying52
 have HR0_4 := zC.mk hr0_4
 have HC0_4 := zC.mk hc0_4
 clear hr0_4 hc0_4
 have HB := zC.mk (Below.refl w.heap.size w)
 have H : ((yO.f k a0_1 a0_2 a0_3).bind fun t180 => ((wP.f a0_1 a0_2 a0_3).bind fun t183 => (yX.l0 k t180 t183 0 a0_0 a0_1 a0_2 a0_3 l0_4))) = some (r1, r2, r3) := h
 clear h
 replace H := Option.bind_eq_some_iff.mp H
 obtain ⟨t180, A20, H⟩ := H
 replace H : ((wP.f a0_1 a0_2 a0_3).bind fun t183 => (yX.l0 k t180 t183 0 a0_0 a0_1 a0_2 a0_3 l0_4)) = some (r1, r2, r3) := H
 have A2 := zC.mk A20
 clear A20
 replace H := Option.bind_eq_some_iff.mp H
 obtain ⟨t183, A30, H⟩ := H
 replace H : (yX.l0 k t180 t183 0 a0_0 a0_1 a0_2 a0_3 l0_4) = some (r1, r2, r3) := H
 have A3 := zC.mk A30
 clear A30
 have H' := zC.mk H
 clear H
 go_enter Try.func91, Try.ntmps91
 go_wp2_with (first | ((with_reducible refine zQ (N := 1) rfl ?_); refine zO ?hg (N := 1) ?hd (cs := #[.int .i64 a0_0, .int .i64 a0_1, .int .i64 a0_2, .int .i64 a0_3, .slice A0_4 l0_4.length c0_4]) (t := 32) ?hr ?_; (case hd => rfl); (case hg => rfl); (case hr => first | (go_simp; done) | (go_simp; rfl)); intro gb178 hg w4 hbox hb; have n0_ := zC.mk (zL (by repeat (first | (with_reducible first | exact HB.out | apply zG | apply zA | apply zF) | exact HB.out)) hb); have n1_ := zC.mk (hbox); have n2_ := zC.mk ((by rw [hg]; exact (zM (by repeat (first | (with_reducible first | exact HB.out | apply zG | apply zA | apply zF) | exact HB.out))) : w.heap.size ≤ gb178)); have n3_ := n2_; clear HB; have HB := n0_; have BK178 := n1_; have GW178 := n2_; have GE178 := n3_; clear n0_ n1_ n2_ n3_; clear hb hbox hg) | ((with_reducible refine zQ (N := 2) rfl ?_); refine zO ?hg (N := 2) ?hd (cs := #[.int .i64 0, .int .i64 0, .int .i64 0]) (t := 30) ?hr ?_; (case hd => rfl); (case hg => rfl); (case hr => first | (go_simp; done) | (go_simp; rfl)); intro gb179 hg w5 hbox hb; have n0_ := zC.mk (zK (g := gb178) (o := .cells #[.int .i64 a0_0, .int .i64 a0_1, .int .i64 a0_2, .int .i64 a0_3, .slice A0_4 l0_4.length c0_4] 32 (0, 0)) (by (with_reducible repeat (first | refine zE ?_ _ | refine zI ?_ | refine zD ?_ _)); exact BK178.out) hb); have n1_ := zC.mk (zL (by repeat (first | (with_reducible first | exact HB.out | apply zG | apply zA | apply zF | refine zH ?_ GE178.out) | exact HB.out)) hb); have n2_ := zC.mk (hbox); have n3_ := zC.mk ((by rw [hg]; exact (zM (by repeat (first | (with_reducible first | exact HB.out | apply zG | apply zA | apply zF | refine zH ?_ GE178.out) | exact HB.out))) : w.heap.size ≤ gb179)); have n4_ := n3_; have n5_ := zC.mk ((by rw [hg]; exact Nat.ne_of_lt (zV (by (with_reducible repeat (first | refine zE ?_ _ | refine zI ?_ | refine zD ?_ _)); exact BK178.out)) : gb178 ≠ gb179)); have n6_ := zC.mk n5_.out.symm; clear BK178; clear HB; have BK178 := n0_; have HB := n1_; have BK179 := n2_; have GW179 := n3_; have GE179 := n4_; have NB178_179 := n5_; have NB179_178 := n6_; clear n0_ n1_ n2_ n3_ n4_ n5_ n6_; clear hb hbox hg; have hnb6 := NB178_179.out; have hnc6 := NB179_178.out; have hcz7_0 : w5.cell? ⟨gb178, 0, none⟩ = some (.int .i64 a0_0) := zB BK178.out 0; have hcz7_1 : w5.cell? ⟨gb178, 1, none⟩ = some (.int .i64 a0_1) := zB BK178.out 1; have hcz7_2 : w5.cell? ⟨gb178, 2, none⟩ = some (.int .i64 a0_2) := zB BK178.out 2; have hcz7_3 : w5.cell? ⟨gb178, 3, none⟩ = some (.int .i64 a0_3) := zB BK178.out 3; have hcz7_4 : w5.cell? ⟨gb178, 4, none⟩ = some (.slice A0_4 l0_4.length c0_4) := zB BK178.out 4; have hfz7_0 := zJ BK178.out 0; have hfz7_1 := zJ BK178.out 1; have hfz7_2 := zJ BK178.out 2; have hfz7_3 := zJ BK178.out 3; have hfz7_4 := zJ BK178.out 4) | ((with_reducible refine zP (f := 63) rfl ?_); refine zX (some 8) rfl rfl Try.func63 (by kernel_rfl) rfl #[.agg #[.int .i64 a0_1, .int .i64 a0_2, .int .i64 a0_3]] rfl (by (try simp only [List.map_toArray, List.map_cons, List.map_nil]); first | done | rfl) ?_; (with_reducible refine (yO.calls k a0_1 a0_2 a0_3 t180 _ A2.out).mono ?_); rintro e w8 ⟨v181, rfl, ho0, hb⟩; refine ⟨_, rfl, ?_⟩; have n0_ := zC.mk (Kd.R_lower ho0 (zM (by repeat (first | (with_reducible first | exact HB.out | apply zG | apply zA | apply zF | refine zH ?_ GE178.out | refine zH ?_ GE179.out) | exact HB.out)))); have n1_ := zC.mk (zK (g := gb178) (o := .cells #[.int .i64 a0_0, .int .i64 a0_1, .int .i64 a0_2, .int .i64 a0_3, .slice A0_4 l0_4.length c0_4] 32 (0, 0)) (by (with_reducible repeat (first | refine zE ?_ _ | refine zI ?_ | refine zD ?_ _)); exact BK178.out) hb); have n2_ := zC.mk (zK (g := gb179) (o := .cells #[.int .i64 0, .int .i64 0, .int .i64 0] 30 (0, 0)) (by (with_reducible repeat (first | refine zE ?_ _ | refine zI ?_ | refine zD ?_ _)); exact BK179.out) hb); have n3_ := zC.mk (zL (by repeat (first | (with_reducible first | exact HB.out | apply zG | apply zA | apply zF | refine zH ?_ GE178.out | refine zH ?_ GE179.out) | exact HB.out)) hb); clear BK178; clear BK179; clear HB; have HO182 := n0_; have BK178 := n1_; have BK179 := n2_; have HB := n3_; clear n0_ n1_ n2_ n3_; (try clear hb); (try clear ho0); have hcz9_0 : w8.cell? ⟨gb178, 0, none⟩ = some (.int .i64 a0_0) := zB BK178.out 0; have hcz9_1 : w8.cell? ⟨gb178, 1, none⟩ = some (.int .i64 a0_1) := zB BK178.out 1; have hcz9_2 : w8.cell? ⟨gb178, 2, none⟩ = some (.int .i64 a0_2) := zB BK178.out 2; have hcz9_3 : w8.cell? ⟨gb178, 3, none⟩ = some (.int .i64 a0_3) := zB BK178.out 3; have hcz9_4 : w8.cell? ⟨gb178, 4, none⟩ = some (.slice A0_4 l0_4.length c0_4) := zB BK178.out 4; have hfz9_0 := zJ BK178.out 0; have hfz9_1 := zJ BK178.out 1; have hfz9_2 := zJ BK178.out 2; have hfz9_3 := zJ BK178.out 3; have hfz9_4 := zJ BK178.out 4) | ((with_reducible refine zP (f := 127) rfl ?_); refine zX (some 11) rfl rfl Try.func127 (by kernel_rfl) rfl #[.agg #[.int .i64 a0_1, .int .i64 a0_2, .int .i64 a0_3]] rfl (by (try simp only [List.map_toArray, List.map_cons, List.map_nil]); first | done | rfl) ?_; (with_reducible refine (wP.calls a0_1 a0_2 a0_3 t183 _ A3.out).mono ?_); rintro e w10 ⟨v184, rfl, ho0, hb⟩; refine ⟨_, rfl, ?_⟩; have n0_ := zC.mk (Kd.R_elder' (by (with_reducible repeat (first | apply Kd.R_alloc | apply Kd.R_drewN | apply Kd.R_drew)); exact HO182.out) (Kd.R_base ho0) hb); have n1_ := zC.mk (Kd.R_lower (Kd.R_new' ho0 (Kd.R_lt (by (with_reducible repeat (first | apply Kd.R_alloc | apply Kd.R_drewN | apply Kd.R_drew)); exact HO182.out))) (zM (by repeat (first | (with_reducible first | exact HB.out | apply zG | apply zA | apply zF | refine zH ?_ GE178.out | refine zH ?_ GE179.out) | exact HB.out)))); have n2_ := zC.mk (zK (g := gb178) (o := .cells #[.int .i64 a0_0, .int .i64 a0_1, .int .i64 a0_2, .int .i64 a0_3, .slice A0_4 l0_4.length c0_4] 32 (0, 0)) (by (with_reducible repeat (first | refine zE ?_ _ | refine zI ?_ | refine zD ?_ _)); exact BK178.out) hb); have n3_ := zC.mk (zK (g := gb179) (o := .cells #[.int .i64 0, .int .i64 0, .int .i64 0] 30 (0, 0)) (by (with_reducible repeat (first | refine zE ?_ _ | refine zI ?_ | refine zD ?_ _)); exact BK179.out) hb); have n4_ := zC.mk (zL (by repeat (first | (with_reducible first | exact HB.out | apply zG | apply zA | apply zF | refine zH ?_ GE178.out | refine zH ?_ GE179.out) | exact HB.out)) hb); clear HO182; clear BK178; clear BK179; clear HB; have HO182 := n0_; have HO185 := n1_; have BK178 := n2_; have BK179 := n3_; have HB := n4_; clear n0_ n1_ n2_ n3_ n4_; (try clear hb); (try clear ho0)))
 go_loopg [4, 5] k (fun kq v4 v5 w' => ∃ (x4_1 : List (S50)) (x5_1 : Int), v5 = .int .i64 x5_1 ∧ zC (yX.l0 kq t180 x4_1 x5_1 a0_0 a0_1 a0_2 a0_3 l0_4 = some (r1, r2, r3)) ∧ zC (kq ≤ k) ∧ zC (Kd.R k50 50 w' w.heap.size (fun k_ => some k_ ≠ (v4 : Value).ownBlock) v181 t180) ∧ zC (Kd.R k50 50 w' w.heap.size (fun k_ => some k_ ≠ (v181 : Value).ownBlock) v4 x4_1) ∧ zC (w'.heap[gb178]? = some (.cells #[.int .i64 a0_0, .int .i64 a0_1, .int .i64 a0_2, .int .i64 a0_3, (.slice A0_4 l0_4.length c0_4)] 32 (0, 0))) ∧ zC (w'.heap[gb179]? = some (.cells #[.int .i64 0, .int .i64 0, .int .i64 0] 30 (0, 0))) ∧ zC (Below w.heap.size w w'))
 case atStart => exact ⟨(t183), (0), (by first | rfl | (simp; done) | (simp [*]; done)), H', ⟨Nat.le_refl _⟩, ⟨by (with_reducible repeat (first | apply Kd.R_alloc | apply Kd.R_drewN | apply Kd.R_drew)); exact Kd.R_mono HO182.out (fun _ hk => hk.2)⟩, ⟨by (with_reducible repeat (first | apply Kd.R_alloc | apply Kd.R_drewN | apply Kd.R_drew)); exact Kd.R_mono HO185.out (fun _ hk => hk.2)⟩, ⟨by (with_reducible repeat (first | refine zE ?_ _ | refine zI ?_ | refine zD ?_ _)); exact BK178.out⟩, ⟨by (with_reducible repeat (first | refine zE ?_ _ | refine zI ?_ | refine zD ?_ _)); exact BK179.out⟩, ⟨by repeat (first | (with_reducible first | exact HB.out | apply zG | apply zA | apply zF | refine zH ?_ GE178.out | refine zH ?_ GE179.out) | exact HB.out)⟩⟩
 case round =>
  clear H'
  try clear c1
  try clear p2
  try clear c6
  try clear c9
  try clear hcz7_0
  try clear hcz7_1
  try clear hcz7_2
  try clear hcz7_3
  try clear hcz7_4
  try clear hcz9_0
  try clear hcz9_1
  try clear hcz9_2
  try clear hcz9_3
  try clear hcz9_4
  try clear hfz7_0
  try clear hfz7_1
  try clear hfz7_2
  try clear hfz7_3
  try clear hfz7_4
  try clear hfz9_0
  try clear hfz9_1
  try clear hfz9_2
  try clear hfz9_3
  try clear hfz9_4
  obtain ⟨x4_1, x5_1, rfl, HA, HK1, HO_3, HO_4, BK178, BK179, HB⟩ := hrel
  cases gk with
  | zero => exact absurd HA.out (by simp [yX.l0])
  | succ k1 =>
   have H := HA.out
   clear HA
   simp only [yX.l0] at H
   by_cases c11 : x5_1 < (t180.length : Int)
   ·
    rw [if_pos c11] at H
    have c11b0 : decide (x5_1 < (t180.length : Int)) = true := decide_eq_true c11
    clear c11
    replace H := Option.bind_eq_some_iff.mp H
    obtain ⟨⟨t189, t190, t191, t192⟩, A120, H⟩ := H
    replace H : (if 0 ≤ x5_1 then ((yW.f k1 a0_0 a0_1 a0_2 a0_3 l0_4 t189 t190 t191 t192 ((rd_T50 t180 x5_1).f0) ((rd_T50 t180 x5_1).f1)).bind fun t194 => (if t194 = true then (if x4_1.length < 8796093022208 then (yX.l0 k1 t180 (x4_1 ++ [(⟨(rd_T50 t180 x5_1).f0, (rd_T50 t180 x5_1).f1⟩ : S50)]) (wrap64 (x5_1 + 1)) a0_0 a0_1 a0_2 a0_3 l0_4) else (none)) else (yX.l0 k1 t180 x4_1 (wrap64 (x5_1 + 1)) a0_0 a0_1 a0_2 a0_3 l0_4))) else (none)) = some (r1, r2, r3) := H
    have A12 := zC.mk A120
    clear A120
    by_cases c13 : 0 ≤ x5_1
    ·
     rw [if_pos c13] at H
     have c13b0 : decide (0 ≤ x5_1) = true := decide_eq_true c13
     clear c13
     replace H := Option.bind_eq_some_iff.mp H
     obtain ⟨t194, A140, H⟩ := H
     replace H : (if t194 = true then (if x4_1.length < 8796093022208 then (yX.l0 k1 t180 (x4_1 ++ [(⟨(rd_T50 t180 x5_1).f0, (rd_T50 t180 x5_1).f1⟩ : S50)]) (wrap64 (x5_1 + 1)) a0_0 a0_1 a0_2 a0_3 l0_4) else (none)) else (yX.l0 k1 t180 x4_1 (wrap64 (x5_1 + 1)) a0_0 a0_1 a0_2 a0_3 l0_4)) = some (r1, r2, r3) := H
     have A14 := zC.mk A140
     clear A140
     have HX15 := zC.mk H
     clear H
     obtain ⟨Ao16, co16, eo16⟩ := Kd.R_slice HO_3.out
     subst eo16
     try go_wp2
     have n0_ := zC.mk (Kd.R_drew HO_3.out)
     have n1_ := zC.mk (Kd.R_drew HO_4.out)
     have n2_ := zC.mk (zI BK178.out)
     have n3_ := zC.mk (zI BK179.out)
     have n4_ := zC.mk (zF HB.out)
     clear HO_3
     clear HO_4
     clear BK178
     clear BK179
     clear HB
     have HO_3 := n0_
     have HO_4 := n1_
     have BK178 := n2_
     have BK179 := n3_
     have HB := n4_
     clear n0_ n1_ n2_ n3_ n4_
     have p193 : 0 ≤ (x5_1 : Int) := of_decide_eq_true (by first | (with_reducible assumption) | assumption)
     have q193 : x5_1 < (t180.length : Int) := of_decide_eq_true (by first | (with_reducible assumption) | assumption)
     obtain ⟨ad193, e193, hx193_0, hx193_1⟩ := at_T50 (Kd.R_reads' HO_3.out).2.2 x5_1 p193 q193
     cases e193
     replace p193 := eq_true p193
     replace q193 := eq_true q193
     refine start_ (n := 8) (S := fun w' => w'.cell? ⟨gb178, 0, none⟩ = some (.int .i64 a0_0) ∧ w'.cell? ⟨gb178, 1, none⟩ = some (.int .i64 a0_1) ∧ w'.cell? ⟨gb178, 2, none⟩ = some (.int .i64 a0_2) ∧ w'.cell? ⟨gb178, 3, none⟩ = some (.int .i64 a0_3) ∧ w'.cell? ⟨gb178, 4, none⟩ = some (.slice A0_4 l0_4.length c0_4) ∧ w'.cell? (ad193.add ((x5_1).toNat * 2)) = some (.int .i64 ((rd_T50 t180 x5_1).f0)) ∧ w'.cell? ⟨(ad193.add ((x5_1).toNat * 2)).block, (ad193.add ((x5_1).toNat * 2)).off + 1, none⟩ = some (.int .i64 ((rd_T50 t180 x5_1).f1))) (ds := []) #[false, false, false, false, false, false, false, false] (by kernel_rfl) rfl rfl ⟨zB BK178.out 0, zB BK178.out 1, zB BK178.out 2, zB BK178.out 3, zB BK178.out 4, hx193_0, hx193_1⟩ (fun hHeld => ?_); refine yE yX.tab6 yX.bits6 (fun HT_ HW_ => ?_)
     generalize wr.drew = w17 at HO_3 HO_4 BK178 BK179 HB hx193_0 hx193_1 hHeld ⊢
     refine zR (i := 2) (N := some 20) (v := ?_) (a' := ?_) #[false, false, true, false, false, false, false, false] rfl rfl (zN HT_.out (by kernel_rfl)) (fun _ _ _ h => h) (Or.inl ⟨by rfl, ?_⟩) ?_ ?_
     rotate_left
     ·
      intro w'
      go_simp
      with_reducible rfl
     rotate_left
     ·
      simp only [Act.put, List.setIfInBounds_toArray, List.set_cons_zero, List.set_cons_succ, zY, zZ]
      rfl
     refine zR (i := 3) (N := some 21) (v := ?_) (a' := ?_) #[false, false, true, true, false, false, false, false] rfl rfl (zN HT_.out (by kernel_rfl)) (fun _ _ _ h => h) (Or.inl ⟨by rfl, ?_⟩) ?_ ?_
     rotate_left
     ·
      intro w'
      go_simp
      with_reducible rfl
     rotate_left
     ·
      simp only [Act.put, List.setIfInBounds_toArray, List.set_cons_zero, List.set_cons_succ, zY, zZ]
      rfl
     refine zR (i := 4) (N := some 22) (v := ?_) (a' := ?_) #[false, false, true, true, true, false, false, false] rfl rfl (zN HT_.out (by kernel_rfl)) (fun _ _ _ h => h) (Or.inl ⟨by rfl, ?_⟩) ?_ ?_
     rotate_left
     ·
      intro w'
      go_simp
      with_reducible rfl
     rotate_left
     ·
      simp only [Act.put, List.setIfInBounds_toArray, List.set_cons_zero, List.set_cons_succ, zY, zZ]
      rfl
     refine yC (i := 0) (N := some 18) (v := ?_) (a' := ?_) #[true, false, true, true, true, false, false, false] rfl rfl (zW HT_.out HW_.out (by kernel_rfl)) (fun _ _ _ h => h) (Or.inl ⟨by rfl, ?_⟩) hHeld ?_ ?_
     rotate_left
     ·
      rintro w' ⟨s0, s1, s2, s3, s4, s5, s6⟩
      go_simp
      with_reducible rfl
     rotate_left
     ·
      simp only [Act.put, List.setIfInBounds_toArray, List.set_cons_zero, List.set_cons_succ, zY, zZ]
      rfl
     refine yC (i := 5) (N := some 23) (v := ?_) (a' := ?_) #[true, false, true, true, true, true, false, false] rfl rfl (zW HT_.out HW_.out (by kernel_rfl)) (fun _ _ _ h => h) (Or.inl ⟨by rfl, ?_⟩) hHeld ?_ ?_
     rotate_left
     ·
      rintro w' ⟨s0, s1, s2, s3, s4, s5, s6⟩
      go_simp
      with_reducible rfl
     rotate_left
     ·
      simp only [Act.put, List.setIfInBounds_toArray, List.set_cons_zero, List.set_cons_succ, zY, zZ]
      rfl
     refine one_ (i := 1) (N := some 19) #[true, true, true, true, true, true, false, false] rfl rfl (yB HT_.out (by kernel_rfl)) (by decide) (fun K hK => ?_)
     refine yD Try.func129 (by kernel_rfl) rfl #[] (by rfl) rfl rfl (by (try simp only [List.map_toArray, List.map_cons, List.map_nil]); first | done | rfl) ?_
     with_reducible refine (wY.calls  t189 t190 t191 t192 _ A12.out).mono ?_
     rintro e w18 ⟨rfl, hb⟩
     have HS5_ := (hb.cell (World.block_lt_of_cell? _ _ (hHeld.2.2.2.2.2.1))).trans (hHeld.2.2.2.2.2.1)
     have HS6_ := (hb.cell (World.block_lt_of_cell? _ _ (hHeld.2.2.2.2.2.2))).trans (hHeld.2.2.2.2.2.2)
     refine ⟨_, rfl, ?_⟩
     have n0_ := zC.mk (Kd.R_below (by (with_reducible repeat (first | apply Kd.R_alloc | apply Kd.R_drewN | apply Kd.R_drew)); exact HO_3.out) hb)
     have n1_ := zC.mk (Kd.R_below (by (with_reducible repeat (first | apply Kd.R_alloc | apply Kd.R_drewN | apply Kd.R_drew)); exact HO_4.out) hb)
     have n2_ := zC.mk (zK (g := gb178) (o := .cells #[.int .i64 a0_0, .int .i64 a0_1, .int .i64 a0_2, .int .i64 a0_3, .slice A0_4 l0_4.length c0_4] 32 (0, 0)) (by (with_reducible repeat (first | refine zE ?_ _ | refine zI ?_ | refine zD ?_ _)); exact BK178.out) hb)
     have n3_ := zC.mk (zK (g := gb179) (o := .cells #[.int .i64 0, .int .i64 0, .int .i64 0] 30 (0, 0)) (by (with_reducible repeat (first | refine zE ?_ _ | refine zI ?_ | refine zD ?_ _)); exact BK179.out) hb)
     have n4_ := zC.mk (zL (by repeat (first | (with_reducible first | exact HB.out | apply zG | apply zA | apply zF | refine zH ?_ GE178.out | refine zH ?_ GE179.out) | exact HB.out)) hb)
     clear HO_3
     clear HO_4
     clear BK178
     clear BK179
     clear HB
     have HO_3 := n0_
     have HO_4 := n1_
     have BK178 := n2_
     have BK179 := n3_
     have HB := n4_
     clear n0_ n1_ n2_ n3_ n4_
     (try clear hb)
     refine hK.out _ _ ⟨zB BK178.out 0, zB BK178.out 1, zB BK178.out 2, zB BK178.out 3, zB BK178.out 4, HS5_, HS6_⟩ (fun hHeld => ?_)
     clear hK K
     refine yA (a' := ?_) ?_ ?_
     rotate_left
     ·
      show Act.put _ (some 19) _ = _
      simp only [Act.put, List.setIfInBounds_toArray, List.set_cons_zero, List.set_cons_succ, zY, zZ]
      rfl
     refine zR (i := 6) (N := some 24) (v := ?_) (a' := ?_) #[true, true, true, true, true, true, true, false] rfl rfl (zN HT_.out (by kernel_rfl)) (fun _ _ _ h => h) (Or.inl ⟨by rfl, ?_⟩) ?_ ?_
     rotate_left
     ·
      intro w'
      go_simp
      with_reducible rfl
     rotate_left
     ·
      simp only [Act.put, List.setIfInBounds_toArray, List.set_cons_zero, List.set_cons_succ, zY, zZ]
      rfl
     refine one_ (i := 7) (N := some 25) #[true, true, true, true, true, true, true, true] rfl rfl (yB HT_.out (by kernel_rfl)) (by decide) (fun K hK => ?_)
     refine yD Try.func128 (by kernel_rfl) rfl #[.agg #[.int .i64 a0_0, .int .i64 a0_1, .int .i64 a0_2, .int .i64 a0_3, .slice A0_4 l0_4.length c0_4], .agg #[.int .i64 t189, .int .i64 t190, .int .i64 t191, .int .i64 t192, .int .i64 ((rd_T50 t180 x5_1).f0), .int .i64 ((rd_T50 t180 x5_1).f1)]] (by rfl) rfl rfl (by (try simp only [List.map_toArray, List.map_cons, List.map_nil]); first | done | rfl) ?_
     with_reducible refine (yW.calls k1 a0_0 a0_1 a0_2 a0_3 _ _ l0_4 t189 t190 t191 t192 ((rd_T50 t180 x5_1).f0) ((rd_T50 t180 x5_1).f1) t194 _ ?side1 ?side2 A14.out).mono ?_
     (case side1 => repeat (first | exact (Kd.C_below HR0_4.out HB.out) | (with_reducible refine Kd.C_alloc ?_ _) | (with_reducible refine Kd.C_drewN ?_ _) | (with_reducible refine Kd.C_drew ?_)))
     (case side2 => exact HC0_4.out)
     rintro e w19 ⟨rfl, hb⟩
     have HS5_ := (hb.cell (World.block_lt_of_cell? _ _ (hHeld.2.2.2.2.2.1))).trans (hHeld.2.2.2.2.2.1)
     have HS6_ := (hb.cell (World.block_lt_of_cell? _ _ (hHeld.2.2.2.2.2.2))).trans (hHeld.2.2.2.2.2.2)
     refine ⟨_, rfl, ?_⟩
     have n0_ := zC.mk (Kd.R_below (by (with_reducible repeat (first | apply Kd.R_alloc | apply Kd.R_drewN | apply Kd.R_drew)); exact HO_3.out) hb)
     have n1_ := zC.mk (Kd.R_below (by (with_reducible repeat (first | apply Kd.R_alloc | apply Kd.R_drewN | apply Kd.R_drew)); exact HO_4.out) hb)
     have n2_ := zC.mk (zK (g := gb178) (o := .cells #[.int .i64 a0_0, .int .i64 a0_1, .int .i64 a0_2, .int .i64 a0_3, .slice A0_4 l0_4.length c0_4] 32 (0, 0)) (by (with_reducible repeat (first | refine zE ?_ _ | refine zI ?_ | refine zD ?_ _)); exact BK178.out) hb)
     have n3_ := zC.mk (zK (g := gb179) (o := .cells #[.int .i64 0, .int .i64 0, .int .i64 0] 30 (0, 0)) (by (with_reducible repeat (first | refine zE ?_ _ | refine zI ?_ | refine zD ?_ _)); exact BK179.out) hb)
     have n4_ := zC.mk (zL (by repeat (first | (with_reducible first | exact HB.out | apply zG | apply zA | apply zF | refine zH ?_ GE178.out | refine zH ?_ GE179.out) | exact HB.out)) hb)
     clear HO_3
     clear HO_4
     clear BK178
     clear BK179
     clear HB
     have HO_3 := n0_
     have HO_4 := n1_
     have BK178 := n2_
     have BK179 := n3_
     have HB := n4_
     clear n0_ n1_ n2_ n3_ n4_
     (try clear hb)
     refine hK.out _ _ ⟨zB BK178.out 0, zB BK178.out 1, zB BK178.out 2, zB BK178.out 3, zB BK178.out 4, HS5_, HS6_⟩ (fun hHeld => ?_)
     clear hK K
     refine yA (a' := ?_) ?_ ?_
     rotate_left
     ·
      show Act.put _ (some 25) _ = _
      simp only [Act.put, List.setIfInBounds_toArray, List.set_cons_zero, List.set_cons_succ, zY, zZ]
      rfl
     refine done_ (done_of HT_.out (by kernel_rfl)) ?_
     go_upto_if 25 with (fail)
     have H := HX15.out
     clear HX15
     by_cases c20 : t194 = true
     ·
      subst c20
      have H1 : (if x4_1.length < 8796093022208 then (yX.l0 k1 t180 (x4_1 ++ [(⟨(rd_T50 t180 x5_1).f0, (rd_T50 t180 x5_1).f1⟩ : S50)]) (wrap64 (x5_1 + 1)) a0_0 a0_1 a0_2 a0_3 l0_4) else (none)) = some (r1, r2, r3) := by rw [if_pos rfl] at H; exact H
      clear H
      have H := H1
      clear H1
      by_cases c21 : x4_1.length < 8796093022208
      ·
       rw [if_pos c21] at H
       have LMc21 := zC.mk c21
       clear c21
       obtain ⟨y196, hy196⟩ : ∃ y_ : List (S50), y_ = (x4_1 ++ [(⟨(rd_T50 t180 x5_1).f0, (rd_T50 t180 x5_1).f1⟩ : S50)]) := ⟨_, rfl⟩
       replace H : (yX.l0 k1 t180 y196 (wrap64 (x5_1 + 1)) a0_0 a0_1 a0_2 a0_3 l0_4) = some (r1, r2, r3) := by first | (rw [hy196]; with_reducible exact H) | (have H2_ := (Option.bind_some _ _).symm.trans H; rw [hy196]; with_reducible exact H2_) | (have H2_ := (Option.bind_some _ _).symm.trans H; with_reducible exact H2_) | with_reducible exact H | (rw [hy196]; exact H) | exact H
       have Ny196 := zC.mk hy196
       clear hy196
       have H' := zC.mk H
       clear H
       have p195 : 0 ≤ (x5_1 : Int) := of_decide_eq_true (by first | (with_reducible assumption) | assumption)
       have q195 : x5_1 < (t180.length : Int) := of_decide_eq_true (by first | (with_reducible assumption) | assumption)
       obtain ⟨ad195, e195, hx195_0, hx195_1⟩ := at_T50 (Kd.R_reads' HO_3.out).2.2 x5_1 p195 q195
       obtain rfl : ad193 = ad195 := (by injection e195)
       replace p195 := eq_true p195
       replace q195 := eq_true q195
       go_wp2_with (first | ((with_reducible refine gate_builtin (b := .append) (xs := #[.tmp 26, .tmp 31]) rfl ?_); at_builtin; refine Kd.R_append k50 (w0 := w) w.heap.size rfl (.tmp 26) (.tmp 31) 92 50 (.agg #[(.int .i64 0), (.int .i64 0)]) 16 rfl Try.underlying92 info50 rfl (by decide) (by omega) u4 x4_1 (⟨(rd_T50 t180 x5_1).f0, (rd_T50 t180 x5_1).f1⟩ : S50) [.int .i64 ((rd_T50 t180 x5_1).f0), .int .i64 ((rd_T50 t180 x5_1).f1)] (fun k_ => some k_ ≠ (.slice (some ad193) t180.length co16 : Value).ownBlock) (fun _ => False) rfl rfl ?aP (fun _ hk => hk.elim) ?aF ?aO ?aB ?aS ?aL ?_; (case aP => exact k50_mkM _ _ _ (⟨(rd_T50 t180 x5_1).f0, (rd_T50 t180 x5_1).f1⟩ : S50)); (case aB => exact (by repeat (first | (with_reducible first | exact HB.out | apply zG | apply zA | apply zF | refine zH ?_ GE178.out | refine zH ?_ GE179.out) | exact HB.out))); (case aF => exact (fun k_ hk => Kd.fresh' (Kd.R_lt (by (with_reducible repeat (first | apply Kd.R_alloc | apply Kd.R_drewN | apply Kd.R_drew)); exact HO_3.out)) k_ hk)); (case aO => exact (by (with_reducible repeat (first | apply Kd.R_alloc | apply Kd.R_drewN | apply Kd.R_drew)); exact HO_4.out)); (case aS => exact (zM (by repeat (first | (with_reducible first | exact HB.out | apply zG | apply zA | apply zF | refine zH ?_ GE178.out | refine zH ?_ GE179.out) | exact HB.out)))); (case aL => have := LMc21.out; omega); intro v197 w22 ho hb hg hat; rw [← Ny196.out] at ho; have n0_ := zC.mk (Kd.R_after (ok := (fun _ => True)) (by (with_reducible repeat (first | apply Kd.R_alloc | apply Kd.R_drewN | apply Kd.R_drew)); exact Kd.R_mono HO_3.out (fun _ hk => ⟨trivial, hk⟩)) hg hat); have n1_ := zC.mk (blk_grown (g := gb178) (o := .cells #[.int .i64 a0_0, .int .i64 a0_1, .int .i64 a0_2, .int .i64 a0_3, .slice A0_4 l0_4.length c0_4] 32 (0, 0)) (by (with_reducible repeat (first | refine zE ?_ _ | refine zI ?_ | refine zD ?_ _)); exact BK178.out) hg (Kd.R_ne HO_4.out BK178.out (by decide))); have n2_ := zC.mk (blk_grown (g := gb179) (o := .cells #[.int .i64 0, .int .i64 0, .int .i64 0] 30 (0, 0)) (by (with_reducible repeat (first | refine zE ?_ _ | refine zI ?_ | refine zD ?_ _)); exact BK179.out) hg (Kd.R_ne HO_4.out BK179.out (by decide))); have n3_ := zC.mk (hb); have n4_ := zC.mk (ho); clear HO_3; clear BK178; clear BK179; clear HB; clear HO_4; have HO_3 := n0_; have BK178 := n1_; have BK179 := n2_; have HB := n3_; have HO198 := n4_; clear n0_ n1_ n2_ n3_ n4_; clear ho hb hg hat))
       go_roundg k1
       case measure => have := HK1.out; omega
       case rel => exact ⟨(y196), (wrap64 (x5_1 + 1)), (by first | rfl | (simp; done) | (simp [*]; done)), H', ⟨by have := HK1.out; omega⟩, ⟨by (with_reducible repeat (first | apply Kd.R_alloc | apply Kd.R_drewN | apply Kd.R_drew)); exact Kd.R_mono HO_3.out (fun _ hk => hk.2)⟩, ⟨by (with_reducible repeat (first | apply Kd.R_alloc | apply Kd.R_drewN | apply Kd.R_drew)); exact HO198.out⟩, ⟨by (with_reducible repeat (first | refine zE ?_ _ | refine zI ?_ | refine zD ?_ _)); exact BK178.out⟩, ⟨by (with_reducible repeat (first | refine zE ?_ _ | refine zI ?_ | refine zD ?_ _)); exact BK179.out⟩, ⟨by repeat (first | (with_reducible first | exact HB.out | apply zG | apply zA | apply zF | refine zH ?_ GE178.out | refine zH ?_ GE179.out) | exact HB.out)⟩⟩
      ·
       rw [if_neg c21] at H
       exact absurd H (by simp)
     ·
      replace c20 := Bool.eq_false_iff.mpr c20
      subst c20
      have H1 : (yX.l0 k1 t180 x4_1 (wrap64 (x5_1 + 1)) a0_0 a0_1 a0_2 a0_3 l0_4) = some (r1, r2, r3) := by rw [if_neg (show ¬ (false = true) by decide)] at H; exact H
      clear H
      have H := H1
      clear H1
      have H' := zC.mk H
      clear H
      go_wp2
      go_roundg k1
      case measure => have := HK1.out; omega
      case rel => exact ⟨(x4_1), (wrap64 (x5_1 + 1)), (by first | rfl | (simp; done) | (simp [*]; done)), H', ⟨by have := HK1.out; omega⟩, ⟨by (with_reducible repeat (first | apply Kd.R_alloc | apply Kd.R_drewN | apply Kd.R_drew)); exact HO_3.out⟩, ⟨by (with_reducible repeat (first | apply Kd.R_alloc | apply Kd.R_drewN | apply Kd.R_drew)); exact HO_4.out⟩, ⟨by (with_reducible repeat (first | refine zE ?_ _ | refine zI ?_ | refine zD ?_ _)); exact BK178.out⟩, ⟨by (with_reducible repeat (first | refine zE ?_ _ | refine zI ?_ | refine zD ?_ _)); exact BK179.out⟩, ⟨by repeat (first | (with_reducible first | exact HB.out | apply zG | apply zA | apply zF | refine zH ?_ GE178.out | refine zH ?_ GE179.out) | exact HB.out)⟩⟩
    ·
     rw [if_neg c13] at H
     exact absurd H (by simp)
   ·
    rw [if_neg c11] at H
    have c11b0 : decide (x5_1 < (t180.length : Int)) = false := decide_eq_false c11
    clear c11
    replace H := Option.bind_eq_some_iff.mp H
    obtain ⟨⟨t186, t187, t188⟩, A230, H⟩ := H
    replace H : (some (t186, t187, t188)) = some (r1, r2, r3) := H
    have A23 := zC.mk A230
    clear A230
    simp only [Option.some.injEq, Prod.mk.injEq] at H
    obtain ⟨rfl, rfl, rfl⟩ := H
    obtain ⟨Ao24, co24, eo24⟩ := Kd.R_slice HO_3.out
    subst eo24
    obtain ⟨Ao25, co25, eo25⟩ := Kd.R_slice HO_4.out
    subst eo25
    go_wp2_with (first | ((with_reducible refine zP (f := 130) rfl ?_); refine zX (some 34) rfl rfl Try.func130 (by kernel_rfl) rfl #[.slice Ao25 x4_1.length co25] rfl (by (try simp only [List.map_toArray, List.map_cons, List.map_nil]); first | done | rfl) ?_; (with_reducible refine (yJ.calls k1 _ _ x4_1 t186 t187 t188 _ ?side1 ?side2 A23.out).mono ?_); (case side1 => repeat (first | exact (Kd.R_reads' HO_4.out).2.2 | (with_reducible refine Kd.C_alloc ?_ _) | (with_reducible refine Kd.C_drewN ?_ _) | (with_reducible refine Kd.C_drew ?_))); (case side2 => exact (Kd.R_reads' HO_4.out).2.1); rintro e w26 ⟨rfl, hb⟩; refine ⟨_, rfl, ?_⟩; have n0_ := zC.mk (Kd.R_below (by (with_reducible repeat (first | apply Kd.R_alloc | apply Kd.R_drewN | apply Kd.R_drew)); exact HO_3.out) hb); have n1_ := zC.mk (Kd.R_below (by (with_reducible repeat (first | apply Kd.R_alloc | apply Kd.R_drewN | apply Kd.R_drew)); exact HO_4.out) hb); have n2_ := zC.mk (zK (g := gb178) (o := .cells #[.int .i64 a0_0, .int .i64 a0_1, .int .i64 a0_2, .int .i64 a0_3, .slice A0_4 l0_4.length c0_4] 32 (0, 0)) (by (with_reducible repeat (first | refine zE ?_ _ | refine zI ?_ | refine zD ?_ _)); exact BK178.out) hb); have n3_ := zC.mk (zK (g := gb179) (o := .cells #[.int .i64 0, .int .i64 0, .int .i64 0] 30 (0, 0)) (by (with_reducible repeat (first | refine zE ?_ _ | refine zI ?_ | refine zD ?_ _)); exact BK179.out) hb); have n4_ := zC.mk (zL (by repeat (first | (with_reducible first | exact HB.out | apply zG | apply zA | apply zF | refine zH ?_ GE178.out | refine zH ?_ GE179.out) | exact HB.out)) hb); clear HO_3; clear HO_4; clear BK178; clear BK179; clear HB; have HO_3 := n0_; have HO_4 := n1_; have BK178 := n2_; have BK179 := n3_; have HB := n4_; clear n0_ n1_ n2_ n3_ n4_; (try clear hb); have hnb27 := NB179_178.out; have hnc27 := NB178_179.out; have hcz28_0 : w26.cell? ⟨gb179, 0, none⟩ = some (.int .i64 0) := zB BK179.out 0; have hcz28_1 : w26.cell? ⟨gb179, 1, none⟩ = some (.int .i64 0) := zB BK179.out 1; have hcz28_2 : w26.cell? ⟨gb179, 2, none⟩ = some (.int .i64 0) := zB BK179.out 2; have hfz28_0 := zJ BK179.out 0; have hfz28_1 := zJ BK179.out 1; have hfz28_2 := zJ BK179.out 2))
    refine bodyPost_ret (results_cell_row rfl _ _ gb179 30 #[.int .i64 t186, .int .i64 t187, .int .i64 t188] (0, 0) _ rfl (by (with_reducible repeat (first | refine zE ?_ _ | refine zI ?_ | refine zD ?_ _)); refine zS (cs := #[.int .i64 t186, .int .i64 t187, .int .i64 0]) ?_ 2 _ rfl; (with_reducible repeat (first | refine zE ?_ _ | refine zI ?_ | refine zD ?_ _)); refine zS (cs := #[.int .i64 t186, .int .i64 0, .int .i64 0]) ?_ 1 _ rfl; (with_reducible repeat (first | refine zE ?_ _ | refine zI ?_ | refine zD ?_ _)); refine zS (cs := #[.int .i64 0, .int .i64 0, .int .i64 0]) ?_ 0 _ rfl; (with_reducible repeat (first | refine zE ?_ _ | refine zI ?_ | refine zD ?_ _)); exact BK179.out) Try.underlying30 rfl (by kernel_rfl)) rfl ?_
    exact ⟨by first | rfl | (simp [*, errW_none, errW_some] <;> rfl), by repeat (first | (with_reducible first | exact HB.out | apply zG | apply zA | apply zF | refine zH ?_ GE178.out | refine zH ?_ GE179.out) | exact HB.out)⟩
theorem yU.calls (k : Nat) (a0_0 : Int) (a0_1 : Int) (a0_2 : Int) (a0_3 : Int) (A0_4 : Option Addr) (c0_4 : Nat) (l0_4 : List Int) (a1 : Bool) (r1 : Int) (r2 : Int) (r3 : Int) (r4 : Int) (w : World) (hr0_4 : Kd.C (Kd.int .i64) w A0_4 l0_4.length l0_4) (hc0_4 : l0_4.length ≤ c0_4) (h : yU.f k a0_0 a0_1 a0_2 a0_3 l0_4 a1 = some (r1, r2, r3, r4)) :
  Calls Try.prog 52 #[.agg #[.int .i64 a0_0, .int .i64 a0_1, .int .i64 a0_2, .int .i64 a0_3, .slice A0_4 l0_4.length c0_4], .bool a1] w fun e w' => e = .returned (.tuple #[.agg #[.int .i64 r1, .int .i64 r2, .int .i64 r3], .int .i64 r4]) ∧ Below w.heap.size w w' := by
 have hu32 := Try.underlying32
 have hu30 := Try.underlying30
 have HR0_4 := zC.mk hr0_4
 have HC0_4 := zC.mk hc0_4
 clear hr0_4 hc0_4
 have HB := zC.mk (Below.refl w.heap.size w)
 have H : ((xN.f k a0_0 a0_1 a0_2 a0_3 l0_4).bind fun t201 => (if t201 = true then (yU.j0 k a1 (a0_0 != 0) a0_0 a0_1 a0_2 a0_3 l0_4) else (yU.j0 k a1 true a0_0 a0_1 a0_2 a0_3 l0_4))) = some (r1, r2, r3, r4) := h
 clear h
 have HC3 := zC.mk H
 clear H
 go_enter Try.func52, Try.ntmps52
 go_upto_region 1 with (first | ((with_reducible refine zQ (N := 2) rfl ?_); refine zO ?hg (N := 2) ?hd (cs := #[.int .i64 a0_0, .int .i64 a0_1, .int .i64 a0_2, .int .i64 a0_3, .slice A0_4 l0_4.length c0_4]) (t := 32) ?hr ?_; (case hd => rfl); (case hg => rfl); (case hr => first | (go_simp; done) | (go_simp; rfl)); intro gb199 hg w4 hbox hb; have n0_ := zC.mk (zL (by repeat (first | (with_reducible first | exact HB.out | apply zG | apply zA | apply zF) | exact HB.out)) hb); have n1_ := zC.mk (hbox); have n2_ := zC.mk ((by rw [hg]; exact (zM (by repeat (first | (with_reducible first | exact HB.out | apply zG | apply zA | apply zF) | exact HB.out))) : w.heap.size ≤ gb199)); have n3_ := n2_; clear HB; have HB := n0_; have BK199 := n1_; have GW199 := n2_; have GE199 := n3_; clear n0_ n1_ n2_ n3_; clear hb hbox hg) | ((with_reducible refine zQ (N := 4) rfl ?_); refine zO ?hg (N := 4) ?hd (cs := #[.int .i64 0, .int .i64 0, .int .i64 0]) (t := 30) ?hr ?_; (case hd => rfl); (case hg => rfl); (case hr => first | (go_simp; done) | (go_simp; rfl)); intro gb200 hg w5 hbox hb; have n0_ := zC.mk (zK (g := gb199) (o := .cells #[.int .i64 a0_0, .int .i64 a0_1, .int .i64 a0_2, .int .i64 a0_3, .slice A0_4 l0_4.length c0_4] 32 (0, 0)) (by (with_reducible repeat (first | refine zE ?_ _ | refine zI ?_ | refine zD ?_ _)); exact BK199.out) hb); have n1_ := zC.mk (zL (by repeat (first | (with_reducible first | exact HB.out | apply zG | apply zA | apply zF | refine zH ?_ GE199.out) | exact HB.out)) hb); have n2_ := zC.mk (hbox); have n3_ := zC.mk ((by rw [hg]; exact (zM (by repeat (first | (with_reducible first | exact HB.out | apply zG | apply zA | apply zF | refine zH ?_ GE199.out) | exact HB.out))) : w.heap.size ≤ gb200)); have n4_ := n3_; have n5_ := zC.mk ((by rw [hg]; exact Nat.ne_of_lt (zV (by (with_reducible repeat (first | refine zE ?_ _ | refine zI ?_ | refine zD ?_ _)); exact BK199.out)) : gb199 ≠ gb200)); have n6_ := zC.mk n5_.out.symm; clear BK199; clear HB; have BK199 := n0_; have HB := n1_; have BK200 := n2_; have GW200 := n3_; have GE200 := n4_; have NB199_200 := n5_; have NB200_199 := n6_; clear n0_ n1_ n2_ n3_ n4_ n5_ n6_; clear hb hbox hg))
 (try simp only [Act.put, List.setIfInBounds_toArray, List.set_cons_zero, List.set_cons_succ])
 go_cut [13] (fun v13 wc => ∃ (kq : Nat) (x13_2 : Bool), v13 = .bool x13_2 ∧ zC (yU.j0 kq a1 x13_2 a0_0 a0_1 a0_2 a0_3 l0_4 = some (r1, r2, r3, r4)) ∧ zC (kq ≤ k) ∧ zC (wc.heap[gb199]? = some (.cells #[.int .i64 a0_0, .int .i64 a0_1, .int .i64 a0_2, .int .i64 a0_3, (.slice A0_4 l0_4.length c0_4)] 32 (0, 0))) ∧ zC (wc.heap[gb200]? = some (.cells #[.int .i64 0, .int .i64 0, .int .i64 0] 30 (0, 0))) ∧ zC (Below w.heap.size w wc))
 case first =>
  have H := HC3.out
  clear HC3
  replace H := Option.bind_eq_some_iff.mp H
  obtain ⟨t201, A60, H⟩ := H
  replace H : (if t201 = true then (yU.j0 k a1 (a0_0 != 0) a0_0 a0_1 a0_2 a0_3 l0_4) else (yU.j0 k a1 true a0_0 a0_1 a0_2 a0_3 l0_4)) = some (r1, r2, r3, r4) := H
  have A6 := zC.mk A60
  clear A60
  by_cases c7 : t201 = true
  ·
   subst c7
   have H1 : (yU.j0 k a1 (a0_0 != 0) a0_0 a0_1 a0_2 a0_3 l0_4) = some (r1, r2, r3, r4) := by rw [if_pos rfl] at H; exact H
   clear H
   have H := H1
   clear H1
   have H' := zC.mk H
   clear H
   have hnb8 := NB199_200.out
   have hnc8 := NB200_199.out
   have hcz9_0 : w5.cell? ⟨gb199, 0, none⟩ = some (.int .i64 a0_0) := zB BK199.out 0
   have hcz9_1 : w5.cell? ⟨gb199, 1, none⟩ = some (.int .i64 a0_1) := zB BK199.out 1
   have hcz9_2 : w5.cell? ⟨gb199, 2, none⟩ = some (.int .i64 a0_2) := zB BK199.out 2
   have hcz9_3 : w5.cell? ⟨gb199, 3, none⟩ = some (.int .i64 a0_3) := zB BK199.out 3
   have hcz9_4 : w5.cell? ⟨gb199, 4, none⟩ = some (.slice A0_4 l0_4.length c0_4) := zB BK199.out 4
   have hfz9_0 := zJ BK199.out 0
   have hfz9_1 := zJ BK199.out 1
   have hfz9_2 := zJ BK199.out 2
   have hfz9_3 := zJ BK199.out 3
   have hfz9_4 := zJ BK199.out 4
   go_wp2_with (first | ((with_reducible refine zP (f := 90) rfl ?_); refine zX (some 7) rfl rfl Try.func90 (by kernel_rfl) rfl #[.agg #[.int .i64 a0_0, .int .i64 a0_1, .int .i64 a0_2, .int .i64 a0_3, .slice A0_4 l0_4.length c0_4]] rfl (by (try simp only [List.map_toArray, List.map_cons, List.map_nil]); first | done | rfl) ?_; (with_reducible refine (xN.calls k a0_0 a0_1 a0_2 a0_3 _ _ l0_4 true _ ?side1 ?side2 A6.out).mono ?_); (case side1 => repeat (first | exact (Kd.C_below HR0_4.out HB.out) | (with_reducible refine Kd.C_alloc ?_ _) | (with_reducible refine Kd.C_drewN ?_ _) | (with_reducible refine Kd.C_drew ?_))); (case side2 => exact HC0_4.out); rintro e w10 ⟨rfl, hb⟩; refine ⟨_, rfl, ?_⟩; have n0_ := zC.mk (zK (g := gb199) (o := .cells #[.int .i64 a0_0, .int .i64 a0_1, .int .i64 a0_2, .int .i64 a0_3, .slice A0_4 l0_4.length c0_4] 32 (0, 0)) (by (with_reducible repeat (first | refine zE ?_ _ | refine zI ?_ | refine zD ?_ _)); exact BK199.out) hb); have n1_ := zC.mk (zK (g := gb200) (o := .cells #[.int .i64 0, .int .i64 0, .int .i64 0] 30 (0, 0)) (by (with_reducible repeat (first | refine zE ?_ _ | refine zI ?_ | refine zD ?_ _)); exact BK200.out) hb); have n2_ := zC.mk (zL (by repeat (first | (with_reducible first | exact HB.out | apply zG | apply zA | apply zF | refine zH ?_ GE199.out | refine zH ?_ GE200.out) | exact HB.out)) hb); clear BK199; clear BK200; clear HB; have BK199 := n0_; have BK200 := n1_; have HB := n2_; clear n0_ n1_ n2_; (try clear hb); have hcz11_0 : w10.cell? ⟨gb199, 0, none⟩ = some (.int .i64 a0_0) := zB BK199.out 0; have hcz11_1 : w10.cell? ⟨gb199, 1, none⟩ = some (.int .i64 a0_1) := zB BK199.out 1; have hcz11_2 : w10.cell? ⟨gb199, 2, none⟩ = some (.int .i64 a0_2) := zB BK199.out 2; have hcz11_3 : w10.cell? ⟨gb199, 3, none⟩ = some (.int .i64 a0_3) := zB BK199.out 3; have hcz11_4 : w10.cell? ⟨gb199, 4, none⟩ = some (.slice A0_4 l0_4.length c0_4) := zB BK199.out 4; have hfz11_0 := zJ BK199.out 0; have hfz11_1 := zJ BK199.out 1; have hfz11_2 := zJ BK199.out 2; have hfz11_3 := zJ BK199.out 3; have hfz11_4 := zJ BK199.out 4))
   go_meet
   case rel => exact ⟨_, ((a0_0 != 0)), (by first | rfl | (simp; done) | (simp [*]; done)), H', ⟨by first | omega | exact Nat.le_refl _⟩, ⟨by (with_reducible repeat (first | refine zE ?_ _ | refine zI ?_ | refine zD ?_ _)); exact BK199.out⟩, ⟨by (with_reducible repeat (first | refine zE ?_ _ | refine zI ?_ | refine zD ?_ _)); exact BK200.out⟩, ⟨by repeat (first | (with_reducible first | exact HB.out | apply zG | apply zA | apply zF | refine zH ?_ GE199.out | refine zH ?_ GE200.out) | exact HB.out)⟩⟩
  ·
   replace c7 := Bool.eq_false_iff.mpr c7
   subst c7
   have H1 : (yU.j0 k a1 true a0_0 a0_1 a0_2 a0_3 l0_4) = some (r1, r2, r3, r4) := by rw [if_neg (show ¬ (false = true) by decide)] at H; exact H
   clear H
   have H := H1
   clear H1
   have H' := zC.mk H
   clear H
   have hnb12 := NB199_200.out
   have hnc12 := NB200_199.out
   have hcz13_0 : w5.cell? ⟨gb199, 0, none⟩ = some (.int .i64 a0_0) := zB BK199.out 0
   have hcz13_1 : w5.cell? ⟨gb199, 1, none⟩ = some (.int .i64 a0_1) := zB BK199.out 1
   have hcz13_2 : w5.cell? ⟨gb199, 2, none⟩ = some (.int .i64 a0_2) := zB BK199.out 2
   have hcz13_3 : w5.cell? ⟨gb199, 3, none⟩ = some (.int .i64 a0_3) := zB BK199.out 3
   have hcz13_4 : w5.cell? ⟨gb199, 4, none⟩ = some (.slice A0_4 l0_4.length c0_4) := zB BK199.out 4
   have hfz13_0 := zJ BK199.out 0
   have hfz13_1 := zJ BK199.out 1
   have hfz13_2 := zJ BK199.out 2
   have hfz13_3 := zJ BK199.out 3
   have hfz13_4 := zJ BK199.out 4
   go_wp2_with (first | ((with_reducible refine zP (f := 90) rfl ?_); refine zX (some 7) rfl rfl Try.func90 (by kernel_rfl) rfl #[.agg #[.int .i64 a0_0, .int .i64 a0_1, .int .i64 a0_2, .int .i64 a0_3, .slice A0_4 l0_4.length c0_4]] rfl (by (try simp only [List.map_toArray, List.map_cons, List.map_nil]); first | done | rfl) ?_; (with_reducible refine (xN.calls k a0_0 a0_1 a0_2 a0_3 _ _ l0_4 false _ ?side1 ?side2 A6.out).mono ?_); (case side1 => repeat (first | exact (Kd.C_below HR0_4.out HB.out) | (with_reducible refine Kd.C_alloc ?_ _) | (with_reducible refine Kd.C_drewN ?_ _) | (with_reducible refine Kd.C_drew ?_))); (case side2 => exact HC0_4.out); rintro e w14 ⟨rfl, hb⟩; refine ⟨_, rfl, ?_⟩; have n0_ := zC.mk (zK (g := gb199) (o := .cells #[.int .i64 a0_0, .int .i64 a0_1, .int .i64 a0_2, .int .i64 a0_3, .slice A0_4 l0_4.length c0_4] 32 (0, 0)) (by (with_reducible repeat (first | refine zE ?_ _ | refine zI ?_ | refine zD ?_ _)); exact BK199.out) hb); have n1_ := zC.mk (zK (g := gb200) (o := .cells #[.int .i64 0, .int .i64 0, .int .i64 0] 30 (0, 0)) (by (with_reducible repeat (first | refine zE ?_ _ | refine zI ?_ | refine zD ?_ _)); exact BK200.out) hb); have n2_ := zC.mk (zL (by repeat (first | (with_reducible first | exact HB.out | apply zG | apply zA | apply zF | refine zH ?_ GE199.out | refine zH ?_ GE200.out) | exact HB.out)) hb); clear BK199; clear BK200; clear HB; have BK199 := n0_; have BK200 := n1_; have HB := n2_; clear n0_ n1_ n2_; (try clear hb)))
   go_meet
   case rel => exact ⟨_, (true), (by first | rfl | (simp; done) | (simp [*]; done)), H', ⟨by first | omega | exact Nat.le_refl _⟩, ⟨by (with_reducible repeat (first | refine zE ?_ _ | refine zI ?_ | refine zD ?_ _)); exact BK199.out⟩, ⟨by (with_reducible repeat (first | refine zE ?_ _ | refine zI ?_ | refine zD ?_ _)); exact BK200.out⟩, ⟨by repeat (first | (with_reducible first | exact HB.out | apply zG | apply zA | apply zF | refine zH ?_ GE199.out | refine zH ?_ GE200.out) | exact HB.out)⟩⟩
 case rest =>
  clear HC3
  try clear c1
  try clear p2
  try clear c5
  try clear c7
  try clear c8
  try clear c9
  try clear c12
  try clear hcz11_0
  try clear hcz11_1
  try clear hcz11_2
  try clear hcz11_3
  try clear hcz11_4
  try clear hcz13_0
  try clear hcz13_1
  try clear hcz13_2
  try clear hcz13_3
  try clear hcz13_4
  try clear hcz9_0
  try clear hcz9_1
  try clear hcz9_2
  try clear hcz9_3
  try clear hcz9_4
  try clear hfz11_0
  try clear hfz11_1
  try clear hfz11_2
  try clear hfz11_3
  try clear hfz11_4
  try clear hfz13_0
  try clear hfz13_1
  try clear hfz13_2
  try clear hfz13_3
  try clear hfz13_4
  try clear hfz9_0
  try clear hfz9_1
  try clear hfz9_2
  try clear hfz9_3
  try clear hfz9_4
  obtain ⟨kq, x13_2, rfl, HA, HJ2, BK199, BK200, HB⟩ := hcut
  cases kq with
  | zero => exact absurd HA.out (by simp [yU.j0])
  | succ kj2 =>
   have H := HA.out
   clear HA
   simp only [yU.j0] at H
   by_cases c15 : x13_2 = true
   ·
    subst c15
    have H1 : (some (0, 0, 0, 1)) = some (r1, r2, r3, r4) := by rw [if_pos rfl] at H; exact H
    clear H
    have H := H1
    clear H1
    simp only [Option.some.injEq, Prod.mk.injEq] at H
    obtain ⟨rfl, rfl, rfl, rfl⟩ := H
    have hnb16 := NB200_199.out
    have hnc16 := NB199_200.out
    have hcz17_0 : wc.cell? ⟨gb200, 0, none⟩ = some (.int .i64 0) := zB BK200.out 0
    have hcz17_1 : wc.cell? ⟨gb200, 1, none⟩ = some (.int .i64 0) := zB BK200.out 1
    have hcz17_2 : wc.cell? ⟨gb200, 2, none⟩ = some (.int .i64 0) := zB BK200.out 2
    have hfz17_0 := zJ BK200.out 0
    have hfz17_1 := zJ BK200.out 1
    have hfz17_2 := zJ BK200.out 2
    go_wp2
    refine bodyPost_ret (results_ct rfl _ _ gb200 30 #[.int .i64 0, .int .i64 0, .int .i64 0] (0, 0) _ rfl (by (with_reducible repeat (first | refine zE ?_ _ | refine zI ?_ | refine zD ?_ _)); refine zS (cs := #[.int .i64 0, .int .i64 0, .int .i64 0]) ?_ 2 _ rfl; (with_reducible repeat (first | refine zE ?_ _ | refine zI ?_ | refine zD ?_ _)); refine zS (cs := #[.int .i64 0, .int .i64 0, .int .i64 0]) ?_ 1 _ rfl; (with_reducible repeat (first | refine zE ?_ _ | refine zI ?_ | refine zD ?_ _)); refine zS (cs := #[.int .i64 0, .int .i64 0, .int .i64 0]) ?_ 0 _ rfl; (with_reducible repeat (first | refine zE ?_ _ | refine zI ?_ | refine zD ?_ _)); exact BK200.out) Try.underlying30 rfl (by kernel_rfl)) rfl ?_
    exact ⟨by first | rfl | (simp [*, errW_none, errW_some] <;> rfl), by repeat (first | (with_reducible first | exact HB.out | apply zG | apply zA | apply zF | refine zH ?_ GE199.out | refine zH ?_ GE200.out) | exact HB.out)⟩
   ·
    replace c15 := Bool.eq_false_iff.mpr c15
    subst c15
    have H1 : (if a1 = true then ((yX.f kj2 a0_0 a0_1 a0_2 a0_3 l0_4).bind fun bt202 => (some (bt202.1, bt202.2.1, bt202.2.2, 0))) else (some (0, 0, 0, 2))) = some (r1, r2, r3, r4) := by rw [if_neg (show ¬ (false = true) by decide)] at H; exact H
    clear H
    have H := H1
    clear H1
    by_cases c18 : a1 = true
    ·
     subst c18
     have H1 : ((yX.f kj2 a0_0 a0_1 a0_2 a0_3 l0_4).bind fun bt202 => (some (bt202.1, bt202.2.1, bt202.2.2, 0))) = some (r1, r2, r3, r4) := by rw [if_pos rfl] at H; exact H
     clear H
     have H := H1
     clear H1
     replace H := Option.bind_eq_some_iff.mp H
     obtain ⟨⟨t202, t203, t204⟩, A190, H⟩ := H
     replace H : (some (t202, t203, t204, 0)) = some (r1, r2, r3, r4) := H
     have A19 := zC.mk A190
     clear A190
     simp only [Option.some.injEq, Prod.mk.injEq] at H
     obtain ⟨rfl, rfl, rfl, rfl⟩ := H
     have hnb20 := NB199_200.out
     have hnc20 := NB200_199.out
     have hcz21_0 : wc.cell? ⟨gb199, 0, none⟩ = some (.int .i64 a0_0) := zB BK199.out 0
     have hcz21_1 : wc.cell? ⟨gb199, 1, none⟩ = some (.int .i64 a0_1) := zB BK199.out 1
     have hcz21_2 : wc.cell? ⟨gb199, 2, none⟩ = some (.int .i64 a0_2) := zB BK199.out 2
     have hcz21_3 : wc.cell? ⟨gb199, 3, none⟩ = some (.int .i64 a0_3) := zB BK199.out 3
     have hcz21_4 : wc.cell? ⟨gb199, 4, none⟩ = some (.slice A0_4 l0_4.length c0_4) := zB BK199.out 4
     have hfz21_0 := zJ BK199.out 0
     have hfz21_1 := zJ BK199.out 1
     have hfz21_2 := zJ BK199.out 2
     have hfz21_3 := zJ BK199.out 3
     have hfz21_4 := zJ BK199.out 4
     go_wp2_with (first | ((with_reducible refine zP (f := 91) rfl ?_); refine zX (some 19) rfl rfl Try.func91 (by kernel_rfl) rfl #[.agg #[.int .i64 a0_0, .int .i64 a0_1, .int .i64 a0_2, .int .i64 a0_3, .slice A0_4 l0_4.length c0_4]] rfl (by (try simp only [List.map_toArray, List.map_cons, List.map_nil]); first | done | rfl) ?_; (with_reducible refine (yX.calls kj2 a0_0 a0_1 a0_2 a0_3 _ _ l0_4 t202 t203 t204 _ ?side1 ?side2 A19.out).mono ?_); (case side1 => repeat (first | exact (Kd.C_below HR0_4.out HB.out) | (with_reducible refine Kd.C_alloc ?_ _) | (with_reducible refine Kd.C_drewN ?_ _) | (with_reducible refine Kd.C_drew ?_))); (case side2 => exact HC0_4.out); rintro e w22 ⟨rfl, hb⟩; refine ⟨_, rfl, ?_⟩; have n0_ := zC.mk (zK (g := gb199) (o := .cells #[.int .i64 a0_0, .int .i64 a0_1, .int .i64 a0_2, .int .i64 a0_3, .slice A0_4 l0_4.length c0_4] 32 (0, 0)) (by (with_reducible repeat (first | refine zE ?_ _ | refine zI ?_ | refine zD ?_ _)); exact BK199.out) hb); have n1_ := zC.mk (zK (g := gb200) (o := .cells #[.int .i64 0, .int .i64 0, .int .i64 0] 30 (0, 0)) (by (with_reducible repeat (first | refine zE ?_ _ | refine zI ?_ | refine zD ?_ _)); exact BK200.out) hb); have n2_ := zC.mk (zL (by repeat (first | (with_reducible first | exact HB.out | apply zG | apply zA | apply zF | refine zH ?_ GE199.out | refine zH ?_ GE200.out) | exact HB.out)) hb); clear BK199; clear BK200; clear HB; have BK199 := n0_; have BK200 := n1_; have HB := n2_; clear n0_ n1_ n2_; (try clear hb); have hcz23_0 : w22.cell? ⟨gb200, 0, none⟩ = some (.int .i64 0) := zB BK200.out 0; have hcz23_1 : w22.cell? ⟨gb200, 1, none⟩ = some (.int .i64 0) := zB BK200.out 1; have hcz23_2 : w22.cell? ⟨gb200, 2, none⟩ = some (.int .i64 0) := zB BK200.out 2; have hfz23_0 := zJ BK200.out 0; have hfz23_1 := zJ BK200.out 1; have hfz23_2 := zJ BK200.out 2))
     refine bodyPost_ret (results_ct rfl _ _ gb200 30 #[.int .i64 t202, .int .i64 t203, .int .i64 t204] (0, 0) _ rfl (by (with_reducible repeat (first | refine zE ?_ _ | refine zI ?_ | refine zD ?_ _)); refine zS (cs := #[.int .i64 t202, .int .i64 t203, .int .i64 0]) ?_ 2 _ rfl; (with_reducible repeat (first | refine zE ?_ _ | refine zI ?_ | refine zD ?_ _)); refine zS (cs := #[.int .i64 t202, .int .i64 0, .int .i64 0]) ?_ 1 _ rfl; (with_reducible repeat (first | refine zE ?_ _ | refine zI ?_ | refine zD ?_ _)); refine zS (cs := #[.int .i64 0, .int .i64 0, .int .i64 0]) ?_ 0 _ rfl; (with_reducible repeat (first | refine zE ?_ _ | refine zI ?_ | refine zD ?_ _)); exact BK200.out) Try.underlying30 rfl (by kernel_rfl)) rfl ?_
     exact ⟨by first | rfl | (simp [*, errW_none, errW_some] <;> rfl), by repeat (first | (with_reducible first | exact HB.out | apply zG | apply zA | apply zF | refine zH ?_ GE199.out | refine zH ?_ GE200.out) | exact HB.out)⟩
    ·
     replace c18 := Bool.eq_false_iff.mpr c18
     subst c18
     have H1 : (some (0, 0, 0, 2)) = some (r1, r2, r3, r4) := by rw [if_neg (show ¬ (false = true) by decide)] at H; exact H
     clear H
     have H := H1
     clear H1
     simp only [Option.some.injEq, Prod.mk.injEq] at H
     obtain ⟨rfl, rfl, rfl, rfl⟩ := H
     have hnb24 := NB200_199.out
     have hnc24 := NB199_200.out
     have hcz25_0 : wc.cell? ⟨gb200, 0, none⟩ = some (.int .i64 0) := zB BK200.out 0
     have hcz25_1 : wc.cell? ⟨gb200, 1, none⟩ = some (.int .i64 0) := zB BK200.out 1
     have hcz25_2 : wc.cell? ⟨gb200, 2, none⟩ = some (.int .i64 0) := zB BK200.out 2
     have hfz25_0 := zJ BK200.out 0
     have hfz25_1 := zJ BK200.out 1
     have hfz25_2 := zJ BK200.out 2
     go_wp2
     refine bodyPost_ret (results_ct rfl _ _ gb200 30 #[.int .i64 0, .int .i64 0, .int .i64 0] (0, 0) _ rfl (by (with_reducible repeat (first | refine zE ?_ _ | refine zI ?_ | refine zD ?_ _)); refine zS (cs := #[.int .i64 0, .int .i64 0, .int .i64 0]) ?_ 2 _ rfl; (with_reducible repeat (first | refine zE ?_ _ | refine zI ?_ | refine zD ?_ _)); refine zS (cs := #[.int .i64 0, .int .i64 0, .int .i64 0]) ?_ 1 _ rfl; (with_reducible repeat (first | refine zE ?_ _ | refine zI ?_ | refine zD ?_ _)); refine zS (cs := #[.int .i64 0, .int .i64 0, .int .i64 0]) ?_ 0 _ rfl; (with_reducible repeat (first | refine zE ?_ _ | refine zI ?_ | refine zD ?_ _)); exact BK200.out) Try.underlying30 rfl (by kernel_rfl)) rfl ?_
     exact ⟨by first | rfl | (simp [*, errW_none, errW_some] <;> rfl), by repeat (first | (with_reducible first | exact HB.out | apply zG | apply zA | apply zF | refine zH ?_ GE199.out | refine zH ?_ GE200.out) | exact HB.out)⟩
attribute [local go_sem high] eqA50
theorem wN.calls (a0_0 : Int) (a0_1 : Int) (a0_2 : Int) (a1_0 : Int) (a1_1 : Int) (r : Bool) (w : World) (h : wN.f a0_0 a0_1 a0_2 a1_0 a1_1 = some r) :
  Calls Try.prog 92 #[.agg #[.int .i64 a0_0, .int .i64 a0_1, .int .i64 a0_2], .agg #[.int .i64 a1_0, .int .i64 a1_1]] w fun e w' => e = .returned (.bool r) ∧ Below w.heap.size w w' := by
 have hu30 := Try.underlying30
 have hu50 := Try.underlying50
 have HB := zC.mk (Below.refl w.heap.size w)
 have H : ((wJ.f a0_0 a0_1 a0_2 a1_0 a1_1).bind fun bt207 => (some (bt207.1 == 0 && (bt207.2 == 0)))) = some r := h
 clear h
 replace H := Option.bind_eq_some_iff.mp H
 obtain ⟨⟨t207, t208⟩, A30, H⟩ := H
 replace H : (some (t207 == 0 && (t208 == 0))) = some r := H
 have A3 := zC.mk A30
 clear A30
 obtain rfl := Option.some.inj H
 go_enter Try.func92, Try.ntmps92
 go_wp2_with (first | ((with_reducible refine zQ (N := 2) rfl ?_); refine zO ?hg (N := 2) ?hd (cs := #[.int .i64 a0_0, .int .i64 a0_1, .int .i64 a0_2]) (t := 30) ?hr ?_; (case hd => rfl); (case hg => rfl); (case hr => first | (go_simp; done) | (go_simp; rfl)); intro gb205 hg w4 hbox hb; have n0_ := zC.mk (zL (by repeat (first | (with_reducible first | exact HB.out | apply zG | apply zA | apply zF) | exact HB.out)) hb); have n1_ := zC.mk (hbox); have n2_ := zC.mk ((by rw [hg]; exact (zM (by repeat (first | (with_reducible first | exact HB.out | apply zG | apply zA | apply zF) | exact HB.out))) : w.heap.size ≤ gb205)); have n3_ := n2_; clear HB; have HB := n0_; have BK205 := n1_; have GW205 := n2_; have GE205 := n3_; clear n0_ n1_ n2_ n3_; clear hb hbox hg) | ((with_reducible refine zQ (N := 3) rfl ?_); refine zO ?hg (N := 3) ?hd (cs := #[.int .i64 a1_0, .int .i64 a1_1]) (t := 50) ?hr ?_; (case hd => rfl); (case hg => rfl); (case hr => first | (go_simp; done) | (go_simp; rfl)); intro gb206 hg w5 hbox hb; have n0_ := zC.mk (zK (g := gb205) (o := .cells #[.int .i64 a0_0, .int .i64 a0_1, .int .i64 a0_2] 30 (0, 0)) (by (with_reducible repeat (first | refine zE ?_ _ | refine zI ?_ | refine zD ?_ _)); exact BK205.out) hb); have n1_ := zC.mk (zL (by repeat (first | (with_reducible first | exact HB.out | apply zG | apply zA | apply zF | refine zH ?_ GE205.out) | exact HB.out)) hb); have n2_ := zC.mk (hbox); have n3_ := zC.mk ((by rw [hg]; exact (zM (by repeat (first | (with_reducible first | exact HB.out | apply zG | apply zA | apply zF | refine zH ?_ GE205.out) | exact HB.out))) : w.heap.size ≤ gb206)); have n4_ := n3_; have n5_ := zC.mk ((by rw [hg]; exact Nat.ne_of_lt (zV (by (with_reducible repeat (first | refine zE ?_ _ | refine zI ?_ | refine zD ?_ _)); exact BK205.out)) : gb205 ≠ gb206)); have n6_ := zC.mk n5_.out.symm; clear BK205; clear HB; have BK205 := n0_; have HB := n1_; have BK206 := n2_; have GW206 := n3_; have GE206 := n4_; have NB205_206 := n5_; have NB206_205 := n6_; clear n0_ n1_ n2_ n3_ n4_ n5_ n6_; clear hb hbox hg; have hnb6 := NB205_206.out; have hnc6 := NB206_205.out; have hcz7_0 : w5.cell? ⟨gb205, 0, none⟩ = some (.int .i64 a0_0) := zB BK205.out 0; have hcz7_1 : w5.cell? ⟨gb205, 1, none⟩ = some (.int .i64 a0_1) := zB BK205.out 1; have hcz7_2 : w5.cell? ⟨gb205, 2, none⟩ = some (.int .i64 a0_2) := zB BK205.out 2; have hfz7_0 := zJ BK205.out 0; have hfz7_1 := zJ BK205.out 1; have hfz7_2 := zJ BK205.out 2; have hcz8_0 : w5.cell? ⟨gb206, 0, none⟩ = some (.int .i64 a1_0) := zB BK206.out 0; have hcz8_1 : w5.cell? ⟨gb206, 1, none⟩ = some (.int .i64 a1_1) := zB BK206.out 1; have hfz8_0 := zJ BK206.out 0; have hfz8_1 := zJ BK206.out 1) | ((with_reducible refine zP (f := 103) rfl ?_); refine zX (some 7) rfl rfl Try.func103 (by kernel_rfl) rfl #[.agg #[.int .i64 a0_0, .int .i64 a0_1, .int .i64 a0_2], .agg #[.int .i64 a1_0, .int .i64 a1_1]] rfl (by (try simp only [List.map_toArray, List.map_cons, List.map_nil]); first | done | rfl) ?_; (with_reducible refine (wJ.calls a0_0 a0_1 a0_2 a1_0 a1_1 t207 t208 _ A3.out).mono ?_); rintro e w9 ⟨rfl, hb⟩; refine ⟨_, rfl, ?_⟩; have n0_ := zC.mk (zK (g := gb205) (o := .cells #[.int .i64 a0_0, .int .i64 a0_1, .int .i64 a0_2] 30 (0, 0)) (by (with_reducible repeat (first | refine zE ?_ _ | refine zI ?_ | refine zD ?_ _)); exact BK205.out) hb); have n1_ := zC.mk (zK (g := gb206) (o := .cells #[.int .i64 a1_0, .int .i64 a1_1] 50 (0, 0)) (by (with_reducible repeat (first | refine zE ?_ _ | refine zI ?_ | refine zD ?_ _)); exact BK206.out) hb); have n2_ := zC.mk (zL (by repeat (first | (with_reducible first | exact HB.out | apply zG | apply zA | apply zF | refine zH ?_ GE205.out | refine zH ?_ GE206.out) | exact HB.out)) hb); clear BK205; clear BK206; clear HB; have BK205 := n0_; have BK206 := n1_; have HB := n2_; clear n0_ n1_ n2_; (try clear hb)))
 go_ret
 exact ⟨by first | rfl | (simp [*, errW_none, errW_some] <;> rfl), by repeat (first | (with_reducible first | exact HB.out | apply zG | apply zA | apply zF | refine zH ?_ GE205.out | refine zH ?_ GE206.out) | exact HB.out)⟩
theorem yT.calls (k : Nat) (a0_0 : Int) (a0_1 : Int) (a0_2 : Int) (r : Int) (w : World) (h : yT.f k a0_0 a0_1 a0_2 = some r) :
  Calls Try.prog 56 #[.agg #[.int .i64 a0_0, .int .i64 a0_1, .int .i64 a0_2]] w fun e w' => e = .returned (.int .i64 r) ∧ Below w.heap.size w w' := by
 have hu30 := Try.underlying30
 have hu50 := Try.underlying50
 have HB := zC.mk (Below.refl w.heap.size w)
 have H : (yT.l0 k 1 a0_0 a0_1 a0_2) = some r := h
 clear h
 have H' := zC.mk H
 clear H
 go_enter Try.func56, Try.ntmps56
 go_wp2_with (first | ((with_reducible refine zQ (N := 1) rfl ?_); refine zO ?hg (N := 1) ?hd (cs := #[.int .i64 a0_0, .int .i64 a0_1, .int .i64 a0_2]) (t := 30) ?hr ?_; (case hd => rfl); (case hg => rfl); (case hr => first | (go_simp; done) | (go_simp; rfl)); intro gb209 hg w2 hbox hb; have n0_ := zC.mk (zL (by repeat (first | (with_reducible first | exact HB.out | apply zG | apply zA | apply zF) | exact HB.out)) hb); have n1_ := zC.mk (hbox); have n2_ := zC.mk ((by rw [hg]; exact (zM (by repeat (first | (with_reducible first | exact HB.out | apply zG | apply zA | apply zF) | exact HB.out))) : w.heap.size ≤ gb209)); have n3_ := n2_; clear HB; have HB := n0_; have BK209 := n1_; have GW209 := n2_; have GE209 := n3_; clear n0_ n1_ n2_ n3_; clear hb hbox hg))
 go_loopg [3] k (fun kq v3 w' => ∃ (x3_1 : Int), v3 = .int .i64 x3_1 ∧ zC (yT.l0 kq x3_1 a0_0 a0_1 a0_2 = some r) ∧ zC (kq ≤ k) ∧ zC (w'.heap[gb209]? = some (.cells #[.int .i64 a0_0, .int .i64 a0_1, .int .i64 a0_2] 30 (0, 0))) ∧ zC (Below w.heap.size w w'))
 case atStart => exact ⟨(1), (by first | rfl | (simp; done) | (simp [*]; done)), H', ⟨Nat.le_refl _⟩, ⟨by (with_reducible repeat (first | refine zE ?_ _ | refine zI ?_ | refine zD ?_ _)); exact BK209.out⟩, ⟨by repeat (first | (with_reducible first | exact HB.out | apply zG | apply zA | apply zF | refine zH ?_ GE209.out) | exact HB.out)⟩⟩
 case round =>
  clear H'
  try clear p2
  obtain ⟨x3_1, rfl, HA, HK1, BK209, HB⟩ := hrel
  cases gk with
  | zero => exact absurd HA.out (by simp [yT.l0])
  | succ k1 =>
   have H := HA.out
   clear HA
   simp only [yT.l0] at H
   replace H := Option.bind_eq_some_iff.mp H
   obtain ⟨t210, A30, H⟩ := H
   replace H : (if t210 = true then (some x3_1) else (yT.l0 k1 (wrap64 (x3_1 + 1)) a0_0 a0_1 a0_2)) = some r := H
   have A3 := zC.mk A30
   clear A30
   by_cases c4 : t210 = true
   ·
    subst c4
    have H1 : (some x3_1) = some r := by rw [if_pos rfl] at H; exact H
    clear H
    have H := H1
    clear H1
    obtain rfl := Option.some.inj H
    have hcz5_0 : wr.cell? ⟨gb209, 0, none⟩ = some (.int .i64 a0_0) := zB BK209.out 0
    have hcz5_1 : wr.cell? ⟨gb209, 1, none⟩ = some (.int .i64 a0_1) := zB BK209.out 1
    have hcz5_2 : wr.cell? ⟨gb209, 2, none⟩ = some (.int .i64 a0_2) := zB BK209.out 2
    have hfz5_0 := zJ BK209.out 0
    have hfz5_1 := zJ BK209.out 1
    have hfz5_2 := zJ BK209.out 2
    go_wp2_with (first | ((with_reducible refine zP (f := 92) rfl ?_); refine zX (some 7) rfl rfl Try.func92 (by kernel_rfl) rfl #[.agg #[.int .i64 a0_0, .int .i64 a0_1, .int .i64 a0_2], .agg #[.int .i64 0, .int .i64 x3_1]] rfl (by (try simp only [List.map_toArray, List.map_cons, List.map_nil]); first | done | rfl) ?_; (with_reducible refine (wN.calls a0_0 a0_1 a0_2 0 x3_1 true _ A3.out).mono ?_); rintro e w6 ⟨rfl, hb⟩; refine ⟨_, rfl, ?_⟩; have n0_ := zC.mk (zK (g := gb209) (o := .cells #[.int .i64 a0_0, .int .i64 a0_1, .int .i64 a0_2] 30 (0, 0)) (by (with_reducible repeat (first | refine zE ?_ _ | refine zI ?_ | refine zD ?_ _)); exact BK209.out) hb); have n1_ := zC.mk (zL (by repeat (first | (with_reducible first | exact HB.out | apply zG | apply zA | apply zF | refine zH ?_ GE209.out) | exact HB.out)) hb); clear BK209; clear HB; have BK209 := n0_; have HB := n1_; clear n0_ n1_; (try clear hb)))
    go_ret
    exact ⟨by first | rfl | (simp [*, errW_none, errW_some] <;> rfl), by repeat (first | (with_reducible first | exact HB.out | apply zG | apply zA | apply zF | refine zH ?_ GE209.out) | exact HB.out)⟩
   ·
    replace c4 := Bool.eq_false_iff.mpr c4
    subst c4
    have H1 : (yT.l0 k1 (wrap64 (x3_1 + 1)) a0_0 a0_1 a0_2) = some r := by rw [if_neg (show ¬ (false = true) by decide)] at H; exact H
    clear H
    have H := H1
    clear H1
    have H' := zC.mk H
    clear H
    have hcz7_0 : wr.cell? ⟨gb209, 0, none⟩ = some (.int .i64 a0_0) := zB BK209.out 0
    have hcz7_1 : wr.cell? ⟨gb209, 1, none⟩ = some (.int .i64 a0_1) := zB BK209.out 1
    have hcz7_2 : wr.cell? ⟨gb209, 2, none⟩ = some (.int .i64 a0_2) := zB BK209.out 2
    have hfz7_0 := zJ BK209.out 0
    have hfz7_1 := zJ BK209.out 1
    have hfz7_2 := zJ BK209.out 2
    go_wp2_with (first | ((with_reducible refine zP (f := 92) rfl ?_); refine zX (some 7) rfl rfl Try.func92 (by kernel_rfl) rfl #[.agg #[.int .i64 a0_0, .int .i64 a0_1, .int .i64 a0_2], .agg #[.int .i64 0, .int .i64 x3_1]] rfl (by (try simp only [List.map_toArray, List.map_cons, List.map_nil]); first | done | rfl) ?_; (with_reducible refine (wN.calls a0_0 a0_1 a0_2 0 x3_1 false _ A3.out).mono ?_); rintro e w8 ⟨rfl, hb⟩; refine ⟨_, rfl, ?_⟩; have n0_ := zC.mk (zK (g := gb209) (o := .cells #[.int .i64 a0_0, .int .i64 a0_1, .int .i64 a0_2] 30 (0, 0)) (by (with_reducible repeat (first | refine zE ?_ _ | refine zI ?_ | refine zD ?_ _)); exact BK209.out) hb); have n1_ := zC.mk (zL (by repeat (first | (with_reducible first | exact HB.out | apply zG | apply zA | apply zF | refine zH ?_ GE209.out) | exact HB.out)) hb); clear BK209; clear HB; have BK209 := n0_; have HB := n1_; clear n0_ n1_; (try clear hb)))
    go_roundg k1
    case measure => have := HK1.out; omega
    case rel => exact ⟨(wrap64 (x3_1 + 1)), (by first | rfl | (simp; done) | (simp [*]; done)), H', ⟨by have := HK1.out; omega⟩, ⟨by (with_reducible repeat (first | refine zE ?_ _ | refine zI ?_ | refine zD ?_ _)); exact BK209.out⟩, ⟨by repeat (first | (with_reducible first | exact HB.out | apply zG | apply zA | apply zF | refine zH ?_ GE209.out) | exact HB.out)⟩⟩
theorem xA.calls (k : Nat) (a0_0 : Int) (a0_1 : Int) (a0_2 : Int) (a1 : Int) (r1 : Int) (r2 : Bool) (w : World) (h : xA.f k a0_0 a0_1 a0_2 a1 = some (r1, r2)) :
  Calls Try.prog 54 #[.agg #[.int .i64 a0_0, .int .i64 a0_1, .int .i64 a0_2], .int .i64 a1] w fun e w' => e = .returned (.tuple #[.int .i64 r1, .bool r2]) ∧ Below w.heap.size w w' := by
 have hu30 := Try.underlying30
 have hu50 := Try.underlying50
 have HB := zC.mk (Below.refl w.heap.size w)
 have H : ((yT.f k a0_0 a0_1 a0_2).bind fun t212 => (xA.l0 k a1 t212 0 a0_0 a0_1 a0_2)) = some (r1, r2) := h
 clear h
 replace H := Option.bind_eq_some_iff.mp H
 obtain ⟨t212, A30, H⟩ := H
 replace H : (xA.l0 k a1 t212 0 a0_0 a0_1 a0_2) = some (r1, r2) := H
 have A3 := zC.mk A30
 clear A30
 have H' := zC.mk H
 clear H
 go_enter Try.func54, Try.ntmps54
 go_wp2_with (first | ((with_reducible refine zQ (N := 2) rfl ?_); refine zO ?hg (N := 2) ?hd (cs := #[.int .i64 a0_0, .int .i64 a0_1, .int .i64 a0_2]) (t := 30) ?hr ?_; (case hd => rfl); (case hg => rfl); (case hr => first | (go_simp; done) | (go_simp; rfl)); intro gb211 hg w4 hbox hb; have n0_ := zC.mk (zL (by repeat (first | (with_reducible first | exact HB.out | apply zG | apply zA | apply zF) | exact HB.out)) hb); have n1_ := zC.mk (hbox); have n2_ := zC.mk ((by rw [hg]; exact (zM (by repeat (first | (with_reducible first | exact HB.out | apply zG | apply zA | apply zF) | exact HB.out))) : w.heap.size ≤ gb211)); have n3_ := n2_; clear HB; have HB := n0_; have BK211 := n1_; have GW211 := n2_; have GE211 := n3_; clear n0_ n1_ n2_ n3_; clear hb hbox hg; have hcz5_0 : w4.cell? ⟨gb211, 0, none⟩ = some (.int .i64 a0_0) := zB BK211.out 0; have hcz5_1 : w4.cell? ⟨gb211, 1, none⟩ = some (.int .i64 a0_1) := zB BK211.out 1; have hcz5_2 : w4.cell? ⟨gb211, 2, none⟩ = some (.int .i64 a0_2) := zB BK211.out 2; have hfz5_0 := zJ BK211.out 0; have hfz5_1 := zJ BK211.out 1; have hfz5_2 := zJ BK211.out 2) | ((with_reducible refine zP (f := 56) rfl ?_); refine zX (some 9) rfl rfl Try.func56 (by kernel_rfl) rfl #[.agg #[.int .i64 a0_0, .int .i64 a0_1, .int .i64 a0_2]] rfl (by (try simp only [List.map_toArray, List.map_cons, List.map_nil]); first | done | rfl) ?_; (with_reducible refine (yT.calls k a0_0 a0_1 a0_2 t212 _ A3.out).mono ?_); rintro e w6 ⟨rfl, hb⟩; refine ⟨_, rfl, ?_⟩; have n0_ := zC.mk (zK (g := gb211) (o := .cells #[.int .i64 a0_0, .int .i64 a0_1, .int .i64 a0_2] 30 (0, 0)) (by (with_reducible repeat (first | refine zE ?_ _ | refine zI ?_ | refine zD ?_ _)); exact BK211.out) hb); have n1_ := zC.mk (zL (by repeat (first | (with_reducible first | exact HB.out | apply zG | apply zA | apply zF | refine zH ?_ GE211.out) | exact HB.out)) hb); clear BK211; clear HB; have BK211 := n0_; have HB := n1_; clear n0_ n1_; (try clear hb)))
 go_loopg [7] k (fun kq v7 w' => ∃ (x7_1 : Int), v7 = .int .i64 x7_1 ∧ zC (xA.l0 kq a1 t212 x7_1 a0_0 a0_1 a0_2 = some (r1, r2)) ∧ zC (kq ≤ k) ∧ zC (w'.heap[gb211]? = some (.cells #[.int .i64 a0_0, .int .i64 a0_1, .int .i64 a0_2] 30 (0, 0))) ∧ zC (Below w.heap.size w w'))
 case atStart => exact ⟨(0), (by first | rfl | (simp; done) | (simp [*]; done)), H', ⟨Nat.le_refl _⟩, ⟨by (with_reducible repeat (first | refine zE ?_ _ | refine zI ?_ | refine zD ?_ _)); exact BK211.out⟩, ⟨by repeat (first | (with_reducible first | exact HB.out | apply zG | apply zA | apply zF | refine zH ?_ GE211.out) | exact HB.out)⟩⟩
 case round =>
  clear H'
  try clear p2
  try clear c5
  try clear hcz5_0
  try clear hcz5_1
  try clear hcz5_2
  try clear hfz5_0
  try clear hfz5_1
  try clear hfz5_2
  obtain ⟨x7_1, rfl, HA, HK1, BK211, HB⟩ := hrel
  cases gk with
  | zero => exact absurd HA.out (by simp [xA.l0])
  | succ k1 =>
   have H := HA.out
   clear HA
   simp only [xA.l0] at H
   by_cases c7 : x7_1 < t212
   ·
    rw [if_pos c7] at H
    have c7b0 : decide (x7_1 < t212) = true := decide_eq_true c7
    clear c7
    replace H := Option.bind_eq_some_iff.mp H
    obtain ⟨t213, A80, H⟩ := H
    replace H : (if t213 = true then (some (x7_1, true)) else (xA.l0 k1 a1 t212 (wrap64 (x7_1 + 1)) a0_0 a0_1 a0_2)) = some (r1, r2) := H
    have A8 := zC.mk A80
    clear A80
    by_cases c9 : t213 = true
    ·
     subst c9
     have H1 : (some (x7_1, true)) = some (r1, r2) := by rw [if_pos rfl] at H; exact H
     clear H
     have H := H1
     clear H1
     simp only [Option.some.injEq, Prod.mk.injEq] at H
     obtain ⟨rfl, rfl⟩ := H
     have hcz10_0 : wr.cell? ⟨gb211, 0, none⟩ = some (.int .i64 a0_0) := zB BK211.out 0
     have hcz10_1 : wr.cell? ⟨gb211, 1, none⟩ = some (.int .i64 a0_1) := zB BK211.out 1
     have hcz10_2 : wr.cell? ⟨gb211, 2, none⟩ = some (.int .i64 a0_2) := zB BK211.out 2
     have hfz10_0 := zJ BK211.out 0
     have hfz10_1 := zJ BK211.out 1
     have hfz10_2 := zJ BK211.out 2
     go_wp2_with (first | ((with_reducible refine zP (f := 92) rfl ?_); refine zX (some 20) rfl rfl Try.func92 (by kernel_rfl) rfl #[.agg #[.int .i64 a0_0, .int .i64 a0_1, .int .i64 a0_2], .agg #[.int .i64 a1, .int .i64 (wrap64 (-x7_1))]] rfl (by (try simp only [List.map_toArray, List.map_cons, List.map_nil]); first | done | rfl) ?_; (with_reducible refine (wN.calls a0_0 a0_1 a0_2 a1 (wrap64 (-x7_1)) true _ A8.out).mono ?_); rintro e w11 ⟨rfl, hb⟩; refine ⟨_, rfl, ?_⟩; have n0_ := zC.mk (zK (g := gb211) (o := .cells #[.int .i64 a0_0, .int .i64 a0_1, .int .i64 a0_2] 30 (0, 0)) (by (with_reducible repeat (first | refine zE ?_ _ | refine zI ?_ | refine zD ?_ _)); exact BK211.out) hb); have n1_ := zC.mk (zL (by repeat (first | (with_reducible first | exact HB.out | apply zG | apply zA | apply zF | refine zH ?_ GE211.out) | exact HB.out)) hb); clear BK211; clear HB; have BK211 := n0_; have HB := n1_; clear n0_ n1_; (try clear hb)))
     go_ret2
     exact ⟨by first | rfl | (simp [*, errW_none, errW_some] <;> rfl), by repeat (first | (with_reducible first | exact HB.out | apply zG | apply zA | apply zF | refine zH ?_ GE211.out) | exact HB.out)⟩
    ·
     replace c9 := Bool.eq_false_iff.mpr c9
     subst c9
     have H1 : (xA.l0 k1 a1 t212 (wrap64 (x7_1 + 1)) a0_0 a0_1 a0_2) = some (r1, r2) := by rw [if_neg (show ¬ (false = true) by decide)] at H; exact H
     clear H
     have H := H1
     clear H1
     have H' := zC.mk H
     clear H
     have hcz12_0 : wr.cell? ⟨gb211, 0, none⟩ = some (.int .i64 a0_0) := zB BK211.out 0
     have hcz12_1 : wr.cell? ⟨gb211, 1, none⟩ = some (.int .i64 a0_1) := zB BK211.out 1
     have hcz12_2 : wr.cell? ⟨gb211, 2, none⟩ = some (.int .i64 a0_2) := zB BK211.out 2
     have hfz12_0 := zJ BK211.out 0
     have hfz12_1 := zJ BK211.out 1
     have hfz12_2 := zJ BK211.out 2
     go_wp2_with (first | ((with_reducible refine zP (f := 92) rfl ?_); refine zX (some 20) rfl rfl Try.func92 (by kernel_rfl) rfl #[.agg #[.int .i64 a0_0, .int .i64 a0_1, .int .i64 a0_2], .agg #[.int .i64 a1, .int .i64 (wrap64 (-x7_1))]] rfl (by (try simp only [List.map_toArray, List.map_cons, List.map_nil]); first | done | rfl) ?_; (with_reducible refine (wN.calls a0_0 a0_1 a0_2 a1 (wrap64 (-x7_1)) false _ A8.out).mono ?_); rintro e w13 ⟨rfl, hb⟩; refine ⟨_, rfl, ?_⟩; have n0_ := zC.mk (zK (g := gb211) (o := .cells #[.int .i64 a0_0, .int .i64 a0_1, .int .i64 a0_2] 30 (0, 0)) (by (with_reducible repeat (first | refine zE ?_ _ | refine zI ?_ | refine zD ?_ _)); exact BK211.out) hb); have n1_ := zC.mk (zL (by repeat (first | (with_reducible first | exact HB.out | apply zG | apply zA | apply zF | refine zH ?_ GE211.out) | exact HB.out)) hb); clear BK211; clear HB; have BK211 := n0_; have HB := n1_; clear n0_ n1_; (try clear hb)))
     go_roundg k1
     case measure => have := HK1.out; omega
     case rel => exact ⟨(wrap64 (x7_1 + 1)), (by first | rfl | (simp; done) | (simp [*]; done)), H', ⟨by have := HK1.out; omega⟩, ⟨by (with_reducible repeat (first | refine zE ?_ _ | refine zI ?_ | refine zD ?_ _)); exact BK211.out⟩, ⟨by repeat (first | (with_reducible first | exact HB.out | apply zG | apply zA | apply zF | refine zH ?_ GE211.out) | exact HB.out)⟩⟩
   ·
    rw [if_neg c7] at H
    have c7b0 : decide (x7_1 < t212) = false := decide_eq_false c7
    clear c7
    simp only [Option.some.injEq, Prod.mk.injEq] at H
    obtain ⟨rfl, rfl⟩ := H
    go_wp2
    go_ret2
    exact ⟨by first | rfl | (simp [*, errW_none, errW_some] <;> rfl), by repeat (first | (with_reducible first | exact HB.out | apply zG | apply zA | apply zF | refine zH ?_ GE211.out) | exact HB.out)⟩
theorem yV.calls (k : Nat) (a0 : Int) (a1 : Int) (a2 : Int) (a3 : Int) (r : List Int) (w : World) (h : yV.f k a0 a1 a2 a3 = some r) :
  Calls Try.prog 55 #[.int .i64 a0, .int .i64 a1, .int .i64 a2, .int .i64 a3] w fun e w' => ∃ v0_ : Value, e = .returned (v0_) ∧ Kd.R (Kd.int .i64) 2 w' w.heap.size (fun _ => True) v0_ r ∧ Below w.heap.size w w' := by
 have HB := zC.mk (Below.refl w.heap.size w)
 have H : (yV.l0 k a0 a1 a2 a3 (([0] : List Int)) 1) = some r := h
 clear h
 obtain ⟨y214, hy214⟩ : ∃ y_ : List Int, y_ = (([0] : List Int)) := ⟨_, rfl⟩
 replace H : (yV.l0 k a0 a1 a2 a3 y214 1) = some r := by first | (rw [hy214]; with_reducible exact H) | (have H2_ := (Option.bind_some _ _).symm.trans H; rw [hy214]; with_reducible exact H2_) | (have H2_ := (Option.bind_some _ _).symm.trans H; with_reducible exact H2_) | with_reducible exact H | (rw [hy214]; exact H) | exact H
 have Ny214 := zC.mk hy214
 clear hy214
 have H' := zC.mk H
 clear H
 go_enter Try.func55, Try.ntmps55
 go_wp2_with (first | ((with_reducible refine zQ (N := 12) rfl ?_); refine Kd.R_lit (Kd.int .i64) _ 2 ?hg (N := 12) ?hd (xs := ([0] : List Int)) (inner := [.int .i64 0]) (ok := fun _ => True) (okp := fun _ => True) ?hr ?hp (fun _ hk => hk) trivial (Below.refl _ _) (Nat.le_refl _) (by simp) ?_; (case hd => rfl); (case hg => rfl); (case hr => first | (go_simp; done) | (go_simp; rfl)); (case hp => exact (Reps.one (show Kd.M (Kd.int .i64) _ _ _ 0 [.int .i64 0] from rfl) (Reps.none _ _))); intro v215 w5 ho6 hb hg_ hnew_; clear hg_ hnew_; (first | rw [← Ny214.out] at ho6 | (simp only [Int.reduceToNat] at ho6; rw [← Ny214.out] at ho6)); have n0_ := zC.mk (Kd.R_lower ho6 (zM (by repeat (first | (with_reducible first | exact HB.out | apply zG | apply zA | apply zF) | exact HB.out)))); have n1_ := zC.mk (zL (by repeat (first | (with_reducible first | exact HB.out | apply zG | apply zA | apply zF) | exact HB.out)) hb); clear HB; have HO216 := n0_; have HB := n1_; clear n0_ n1_; clear hb ho6))
 go_loopg [9, 10] k (fun kq v9 v10 w' => ∃ (x9_1 : List Int) (x10_1 : Int), v10 = .int .i64 x10_1 ∧ zC (yV.l0 kq a0 a1 a2 a3 x9_1 x10_1 = some r) ∧ zC (kq ≤ k) ∧ zC (Kd.R (Kd.int .i64) 2 w' w.heap.size (fun _ => True) v9 x9_1) ∧ zC (Below w.heap.size w w'))
 case atStart => exact ⟨(y214), (1), (by first | rfl | (simp; done) | (simp [*]; done)), H', ⟨Nat.le_refl _⟩, ⟨by (with_reducible repeat (first | apply Kd.R_alloc | apply Kd.R_drewN | apply Kd.R_drew)); exact HO216.out⟩, ⟨by repeat (first | (with_reducible first | exact HB.out | apply zG | apply zA | apply zF) | exact HB.out)⟩⟩
 case round =>
  clear H'
  try clear p2
  try clear c5
  obtain ⟨x9_1, x10_1, rfl, HA, HK1, HO_9, HB⟩ := hrel
  cases gk with
  | zero => exact absurd HA.out (by simp [yV.l0])
  | succ k1 =>
   have H := HA.out
   clear HA
   simp only [yV.l0] at H
   by_cases c7 : x10_1 < a3
   ·
    rw [if_pos c7] at H
    have c7b0 : decide (x10_1 < a3) = true := decide_eq_true c7
    clear c7
    obtain ⟨ji8, hji8⟩ : ∃ j_ : Int, (wrap64 (x10_1 - 1)) = j_ := ⟨_, rfl⟩
    replace H : (if 0 ≤ (ji8) then (if (ji8) < (x9_1.length : Int) then ((xU.f (wrap64 ((wrap64 (x10_1 * a1)) - (wrap64 ((rd x9_1 (ji8)) + a2)))) a0).bind fun t218 => (if x9_1.length < 17592186044416 then (yV.l0 k1 a0 a1 a2 a3 (x9_1 ++ [wrap64 ((wrap64 ((rd x9_1 (ji8)) + a2)) + t218)]) (wrap64 (x10_1 + 1))) else (none))) else (none)) else (none)) = some r := by first | (rw [hji8] at H; exact H) | (simp only [hji8] at H ⊢; exact H)
    have hji8w : (IntKind.i64.wrap (x10_1 - 1)) = ji8 := (zY _).trans hji8
    by_cases c9 : 0 ≤ (ji8)
    ·
     rw [if_pos c9] at H
     have c9b0 : decide (0 ≤ (ji8)) = true := decide_eq_true c9
     clear c9
     by_cases c10 : (ji8) < (x9_1.length : Int)
     ·
      rw [if_pos c10] at H
      have c10b0 : decide ((ji8) < (x9_1.length : Int)) = true := decide_eq_true c10
      clear c10
      replace H := Option.bind_eq_some_iff.mp H
      obtain ⟨t218, A110, H⟩ := H
      replace H : (if x9_1.length < 17592186044416 then (yV.l0 k1 a0 a1 a2 a3 (x9_1 ++ [wrap64 ((wrap64 ((rd x9_1 (ji8)) + a2)) + t218)]) (wrap64 (x10_1 + 1))) else (none)) = some r := H
      have A11 := zC.mk A110
      clear A110
      by_cases c12 : x9_1.length < 17592186044416
      ·
       rw [if_pos c12] at H
       have LMc12 := zC.mk c12
       clear c12
       obtain ⟨y219, hy219⟩ : ∃ y_ : List Int, y_ = (x9_1 ++ [wrap64 ((wrap64 ((rd x9_1 (ji8)) + a2)) + t218)]) := ⟨_, rfl⟩
       replace H : (yV.l0 k1 a0 a1 a2 a3 y219 (wrap64 (x10_1 + 1))) = some r := by first | (rw [hy219]; with_reducible exact H) | (have H2_ := (Option.bind_some _ _).symm.trans H; rw [hy219]; with_reducible exact H2_) | (have H2_ := (Option.bind_some _ _).symm.trans H; with_reducible exact H2_) | with_reducible exact H | (rw [hy219]; exact H) | exact H
       have Ny219 := zC.mk hy219
       clear hy219
       have H' := zC.mk H
       clear H
       obtain ⟨Ao13, co13, eo13⟩ := Kd.R_slice HO_9.out
       subst eo13
       have p217 : 0 ≤ ((ji8) : Int) := of_decide_eq_true (by first | (with_reducible assumption) | assumption)
       have q217 : (ji8) < (x9_1.length : Int) := of_decide_eq_true (by first | (with_reducible assumption) | assumption)
       obtain ⟨ad217, e217, hx217_0⟩ := Kd.at_int (Kd.R_reads' HO_9.out).2.2 (ji8) p217 q217
       cases e217
       replace p217 := eq_true p217
       replace q217 := eq_true q217
       go_wp2_with (first | ((with_reducible refine zP (f := 93) rfl ?_); refine zX (some 33) rfl rfl Try.func93 (by kernel_rfl) rfl #[.int .i64 (wrap64 ((wrap64 (x10_1 * a1)) - (wrap64 ((rd x9_1 (ji8)) + a2)))), .int .i64 a0] rfl (by (try simp only [List.map_toArray, List.map_cons, List.map_nil]); first | done | (simp only [hji8]; rfl) | rfl | (simp only [List.length_drop, List.length_take]; rfl)) ?_; (with_reducible refine (xU.calls (wrap64 ((wrap64 (x10_1 * a1)) - (wrap64 ((rd x9_1 (ji8)) + a2)))) a0 t218 _ A11.out).mono ?_); rintro e w' ⟨rfl, ⟨nd, rfl⟩⟩; refine ⟨_, rfl, ?_⟩) | ((with_reducible refine gate_builtin (b := .append) (xs := #[.tmp 25, .tmp 35]) rfl ?_); at_builtin; refine Kd.R_append (Kd.int .i64) (w0 := w) w.heap.size rfl (.tmp 25) (.tmp 35) 24 2 (.int .i64 0) 8 rfl Try.underlying24 info2 rfl (by decide) (by omega) (.slice (some ad217) x9_1.length co13) x9_1 (wrap64 ((wrap64 ((rd x9_1 (ji8)) + a2)) + t218)) [.int .i64 (wrap64 ((wrap64 ((rd x9_1 (ji8)) + a2)) + t218))] (fun _ => True) (fun _ => False) rfl rfl ?aP (fun _ hk => hk.elim) ?aF ?aO ?aB ?aS ?aL ?_; (case aP => exact rfl); (case aB => exact (by repeat (first | (with_reducible first | exact HB.out | apply zG | apply zA | apply zF) | exact HB.out))); (case aF => exact (fun _ _ => trivial)); (case aO => exact (by (with_reducible repeat (first | apply Kd.R_alloc | apply Kd.R_drewN | apply Kd.R_drew)); exact HO_9.out)); (case aS => exact (zM (by repeat (first | (with_reducible first | exact HB.out | apply zG | apply zA | apply zF) | exact HB.out)))); (case aL => have := LMc12.out; omega); intro v220 w14 ho hb hg hat; rw [← Ny219.out] at ho; have n0_ := zC.mk (hb); have n1_ := zC.mk (ho); clear HB; clear HO_9; have HB := n0_; have HO221 := n1_; clear n0_ n1_; clear ho hb hg hat))
       go_roundg k1
       case measure => have := HK1.out; omega
       case rel => exact ⟨(y219), (wrap64 (x10_1 + 1)), (by first | rfl | (simp; done) | (simp [*]; done)), H', ⟨by have := HK1.out; omega⟩, ⟨by (with_reducible repeat (first | apply Kd.R_alloc | apply Kd.R_drewN | apply Kd.R_drew)); exact HO221.out⟩, ⟨by repeat (first | (with_reducible first | exact HB.out | apply zG | apply zA | apply zF) | exact HB.out)⟩⟩
      ·
       rw [if_neg c12] at H
       exact absurd H (by simp)
     ·
      rw [if_neg c10] at H
      exact absurd H (by simp)
    ·
     rw [if_neg c9] at H
     exact absurd H (by simp)
   ·
    rw [if_neg c7] at H
    have c7b0 : decide (x10_1 < a3) = false := decide_eq_false c7
    clear c7
    obtain rfl := Option.some.inj H
    go_wp2
    go_ret
    exact ⟨_, by first | rfl | (simp [*, errW_none, errW_some] <;> rfl), by (with_reducible repeat (first | apply Kd.R_alloc | apply Kd.R_drewN | apply Kd.R_drew)); exact HO_9.out, by repeat (first | (with_reducible first | exact HB.out | apply zG | apply zA | apply zF) | exact HB.out)⟩
end Go.Proofs.Ytioendlbpendpaa.X
