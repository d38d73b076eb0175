/- Part of the proof of the law FnExactFriezeName: each function of the code computes what its plain function says. No condition of its own. -/
import Derived.Test.YtjjockhekaccnaaCFnExactFriezeNameW0
set_option maxHeartbeats 8000000
set_option maxRecDepth 100000
namespace Go.Proofs.Ytjjockhekaccnaa.X
open Go.RowKit Go.Proofs.YtjjockhekaccnaaW.PrintWords Go.Proofs.YtjjockhekaccnaaW.PrintLast Go.Proofs.YtjjockhekaccnaaW.PrintMore
attribute [local go_sem] max2_int min2_int max_two min_two max_three min_three max_four min_four   -- for this text's walks alone
set_option linter.unusedVariables false
set_option linter.unusedSimpArgs false
theorem zX.calls (k : Nat) (a0_0 : Int) (a0_1 : Int) (A0_2 : Option Addr) (c0_2 : Nat) (l0_2 : List Int) (r1 : ByteArray) (r2 : Int) (w : World) (hr0_2 : Kd.C (Kd.int .i64) w A0_2 l0_2.length l0_2) (hc0_2 : l0_2.length ≤ c0_2) (h : zX.f k a0_0 a0_1 l0_2 = some (r1, r2)) :
  Calls Try.prog 27 #[.agg #[.int .i64 a0_0, .int .i64 a0_1, .slice A0_2 l0_2.length c0_2]] w fun e w' => e = .returned (.tuple #[.string r1, .int .i64 r2]) ∧ Below w.heap.size w w' := by
 have hu28 := Try.underlying28
 have hu36 := Try.underlying36
 have HR0_2 := zB.mk hr0_2
 have HC0_2 := zB.mk hc0_2
 clear hr0_2 hc0_2
 have HB := zB.mk (Below.refl w.heap.size w)
 have H : ((yM.f k a0_0 a0_1 l0_2).bind fun t375 => (if t375 = true then ((yA.f k a0_0 a0_1 l0_2).bind fun t376 => (zX.l0 k t376 false false false false 0)) else (some ((⟨#[]⟩ : ByteArray), 1)))) = some (r1, r2) := h
 clear h
 replace H := Option.bind_eq_some_iff.mp H
 obtain ⟨t375, A20, H⟩ := H
 replace H : (if t375 = true then ((yA.f k a0_0 a0_1 l0_2).bind fun t376 => (zX.l0 k t376 false false false false 0)) else (some ((⟨#[]⟩ : ByteArray), 1))) = some (r1, r2) := H
 have A2 := zB.mk A20
 clear A20
 have HX3 := zB.mk H
 clear H
 go_enter Try.func27, Try.ntmps27
 go_upto_if 13 with (first | ((with_reducible refine zP (N := 1) rfl ?_); refine zO ?hg (N := 1) ?hd (cs := #[.int .i64 a0_0, .int .i64 a0_1, .slice A0_2 l0_2.length c0_2]) (t := 28) ?hr ?_; (case hd => rfl); (case hg => rfl); (case hr => first | (go_simp; done) | (go_simp; rfl)); intro gb374 hg w4 hbox hb; have n0_ := zB.mk (zK (by repeat (first | (with_reducible first | exact HB.out | apply zF | apply zA | apply zE) | exact HB.out)) hb); have n1_ := zB.mk (hbox); have n2_ := zB.mk ((by rw [hg]; exact (zM (by repeat (first | (with_reducible first | exact HB.out | apply zF | apply zA | apply zE) | exact HB.out))) : w.heap.size ≤ gb374)); have n3_ := n2_; clear HB; have HB := n0_; have BK374 := n1_; have GW374 := n2_; have GE374 := n3_; clear n0_ n1_ n2_ n3_; clear hb hbox hg; have hcz5_0 : w4.cell? ⟨gb374, 0, none⟩ = some (.int .i64 a0_0) := zJ BK374.out 0; have hcz5_1 : w4.cell? ⟨gb374, 1, none⟩ = some (.int .i64 a0_1) := zJ BK374.out 1; have hcz5_2 : w4.cell? ⟨gb374, 2, none⟩ = some (.slice A0_2 l0_2.length c0_2) := zJ BK374.out 2; have hfz5_0 := zI BK374.out 0; have hfz5_1 := zI BK374.out 1; have hfz5_2 := zI BK374.out 2) | ((with_reducible refine zR (f := 48) rfl ?_); refine zV (some 12) rfl rfl Try.func48 (by kernel_rfl) rfl #[.agg #[.int .i64 a0_0, .int .i64 a0_1, .slice A0_2 l0_2.length c0_2]] rfl (by (try simp only [List.map_toArray, List.map_cons, List.map_nil]); first | done | rfl) ?_; (with_reducible refine (yM.calls k a0_0 a0_1 _ _ l0_2 t375 _ ?side1 ?side2 A2.out).mono ?_); (case side1 => repeat (first | exact (Kd.C_below HR0_2.out HB.out) | (with_reducible refine Kd.C_alloc ?_ _) | (with_reducible refine Kd.C_drewN ?_ _) | (with_reducible refine Kd.C_drew ?_))); (case side2 => exact HC0_2.out); rintro e w6 ⟨rfl, hb⟩; refine ⟨_, rfl, ?_⟩; have n0_ := zB.mk (zN (g := gb374) (o := .cells #[.int .i64 a0_0, .int .i64 a0_1, .slice A0_2 l0_2.length c0_2] 28 (0, 0)) (by (with_reducible repeat (first | refine zC ?_ _ | refine zG ?_ | refine zD ?_ _)); exact BK374.out) hb); have n1_ := zB.mk (zK (by repeat (first | (with_reducible first | exact HB.out | apply zF | apply zA | apply zE | refine zH ?_ GE374.out) | exact HB.out)) hb); clear BK374; clear HB; have BK374 := n0_; have HB := n1_; clear n0_ n1_; (try clear hb)))
 have H := HX3.out
 clear HX3
 by_cases c7 : t375 = true
 ·
  subst c7
  have H1 : ((yA.f k a0_0 a0_1 l0_2).bind fun t376 => (zX.l0 k t376 false false false false 0)) = some (r1, r2) := by rw [if_pos rfl] at H; exact H
  clear H
  have H := H1
  clear H1
  replace H := Option.bind_eq_some_iff.mp H
  obtain ⟨t376, A80, H⟩ := H
  replace H : (zX.l0 k t376 false false false false 0) = some (r1, r2) := H
  have A8 := zB.mk A80
  clear A80
  have H' := zB.mk H
  clear H
  have hcz9_0 : w6.cell? ⟨gb374, 0, none⟩ = some (.int .i64 a0_0) := zJ BK374.out 0
  have hcz9_1 : w6.cell? ⟨gb374, 1, none⟩ = some (.int .i64 a0_1) := zJ BK374.out 1
  have hcz9_2 : w6.cell? ⟨gb374, 2, none⟩ = some (.slice A0_2 l0_2.length c0_2) := zJ BK374.out 2
  have hfz9_0 := zI BK374.out 0
  have hfz9_1 := zI BK374.out 1
  have hfz9_2 := zI BK374.out 2
  go_wp2_with (first | ((with_reducible refine zR (f := 74) rfl ?_); refine zV (some 15) rfl rfl Try.func74 (by kernel_rfl) rfl #[.agg #[.int .i64 a0_0, .int .i64 a0_1, .slice A0_2 l0_2.length c0_2]] rfl (by (try simp only [List.map_toArray, List.map_cons, List.map_nil]); first | done | rfl) ?_; (with_reducible refine (yA.calls k a0_0 a0_1 _ _ l0_2 t376 _ ?side1 ?side2 A8.out).mono ?_); (case side1 => repeat (first | exact (Kd.C_below HR0_2.out HB.out) | (with_reducible refine Kd.C_alloc ?_ _) | (with_reducible refine Kd.C_drewN ?_ _) | (with_reducible refine Kd.C_drew ?_))); (case side2 => exact HC0_2.out); rintro e w10 ⟨v377, rfl, ho0, hb⟩; refine ⟨_, rfl, ?_⟩; have n0_ := zB.mk (Kd.R_lower ho0 (zM (by repeat (first | (with_reducible first | exact HB.out | apply zF | apply zA | apply zE | refine zH ?_ GE374.out) | exact HB.out)))); have n1_ := zB.mk (zN (g := gb374) (o := .cells #[.int .i64 a0_0, .int .i64 a0_1, .slice A0_2 l0_2.length c0_2] 28 (0, 0)) (by (with_reducible repeat (first | refine zC ?_ _ | refine zG ?_ | refine zD ?_ _)); exact BK374.out) hb); have n2_ := zB.mk (zK (by repeat (first | (with_reducible first | exact HB.out | apply zF | apply zA | apply zE | refine zH ?_ GE374.out) | exact HB.out)) hb); clear BK374; clear HB; have HO378 := n0_; have BK374 := n1_; have HB := n2_; clear n0_ n1_ n2_; (try clear hb); (try clear ho0)))
  go_loopg [5, 6, 7, 8, 9] k (fun kq v5 v6 v7 v8 v9 w' => ∃ (x5_1 : Bool) (x6_1 : Bool) (x7_1 : Bool) (x8_1 : Bool) (x9_1 : Int), v5 = .bool x5_1 ∧ v6 = .bool x6_1 ∧ v7 = .bool x7_1 ∧ v8 = .bool x8_1 ∧ v9 = .int .i64 x9_1 ∧ zB (zX.l0 kq t376 x5_1 x6_1 x7_1 x8_1 x9_1 = some (r1, r2)) ∧ zB (kq ≤ k) ∧ zB (Kd.R k36 36 w' w.heap.size (fun _ => True) v377 t376) ∧ zB (w'.heap[gb374]? = some (.cells #[.int .i64 a0_0, .int .i64 a0_1, (.slice A0_2 l0_2.length c0_2)] 28 (0, 0))) ∧ zB (Below w.heap.size w w'))
  case atStart => exact ⟨(false), (false), (false), (false), (0), (by first | rfl | (simp; done) | (simp [*]; done)), (by first | rfl | (simp; done) | (simp [*]; done)), (by first | rfl | (simp; done) | (simp [*]; done)), (by first | rfl | (simp; done) | (simp [*]; done)), (by first | rfl | (simp; done) | (simp [*]; done)), H', ⟨Nat.le_refl _⟩, ⟨by (with_reducible repeat (first | apply Kd.R_alloc | apply Kd.R_drewN | apply Kd.R_drew)); exact HO378.out⟩, ⟨by (with_reducible repeat (first | refine zC ?_ _ | refine zG ?_ | refine zD ?_ _)); exact BK374.out⟩, ⟨by repeat (first | (with_reducible first | exact HB.out | apply zF | apply zA | apply zE | refine zH ?_ GE374.out) | exact HB.out)⟩⟩
  case round =>
   clear H'
   try clear c2
   try clear p2
   try clear c4
   try clear c7
   try clear hcz5_0
   try clear hcz5_1
   try clear hcz5_2
   try clear hcz9_0
   try clear hcz9_1
   try clear hcz9_2
   try clear hfz5_0
   try clear hfz5_1
   try clear hfz5_2
   try clear hfz9_0
   try clear hfz9_1
   try clear hfz9_2
   obtain ⟨x5_1, x6_1, x7_1, x8_1, x9_1, rfl, rfl, rfl, rfl, rfl, HA, HK1, HO_4, BK374, HB⟩ := hrel
   cases gk with
   | zero => exact absurd HA.out (by simp [zX.l0])
   | succ k1 =>
    have H := HA.out
    clear HA
    simp only [zX.l0] at H
    by_cases c11 : x9_1 < (t376.length : Int)
    ·
     rw [if_pos c11] at H
     have c11b0 : decide (x9_1 < (t376.length : Int)) = true := decide_eq_true c11
     clear c11
     by_cases c12 : 0 ≤ x9_1
     ·
      rw [if_pos c12] at H
      have c12b0 : decide (0 ≤ x9_1) = true := decide_eq_true c12
      clear c12
      by_cases c13 : x5_1 = true
      ·
       subst c13
       have H1 : (if x6_1 = true then (if x7_1 = true then (if x8_1 = true then (zX.l0 k1 t376 true true true true (wrap64 (x9_1 + 1))) else (if (rd_T36 t376 x9_1).f0 = true then (zX.l0 k1 t376 true true true ((rd_T36 t376 x9_1).f1) (wrap64 (x9_1 + 1))) else (zX.l0 k1 t376 true true true false (wrap64 (x9_1 + 1))))) else (if (rd_T36 t376 x9_1).f0 = true then (if x8_1 = true then (zX.l0 k1 t376 true true (!((rd_T36 t376 x9_1).f1)) true (wrap64 (x9_1 + 1))) else (zX.l0 k1 t376 true true (!((rd_T36 t376 x9_1).f1)) ((rd_T36 t376 x9_1).f1) (wrap64 (x9_1 + 1)))) else (if x8_1 = true then (zX.l0 k1 t376 true true false true (wrap64 (x9_1 + 1))) else (zX.l0 k1 t376 true true false false (wrap64 (x9_1 + 1)))))) else (if ((rd_T36 t376 x9_1).f0 = true) then (if x7_1 = true then (if x8_1 = true then (zX.l0 k1 t376 true false true true (wrap64 (x9_1 + 1))) else (if (rd_T36 t376 x9_1).f0 = true then (zX.l0 k1 t376 true false true ((rd_T36 t376 x9_1).f1) (wrap64 (x9_1 + 1))) else (zX.l0 k1 t376 true false true false (wrap64 (x9_1 + 1))))) else (if (rd_T36 t376 x9_1).f0 = true then (if x8_1 = true then (zX.l0 k1 t376 true false (!((rd_T36 t376 x9_1).f1)) true (wrap64 (x9_1 + 1))) else (zX.l0 k1 t376 true false (!((rd_T36 t376 x9_1).f1)) ((rd_T36 t376 x9_1).f1) (wrap64 (x9_1 + 1)))) else (if x8_1 = true then (zX.l0 k1 t376 true false false true (wrap64 (x9_1 + 1))) else (zX.l0 k1 t376 true false false false (wrap64 (x9_1 + 1)))))) else (if (rd_T36 t376 x9_1).f1 = true then (if x7_1 = true then (if x8_1 = true then (zX.l0 k1 t376 true (((rd_T36 t376 x9_1).f2) != 0) true true (wrap64 (x9_1 + 1))) else (if (rd_T36 t376 x9_1).f0 = true then (zX.l0 k1 t376 true (((rd_T36 t376 x9_1).f2) != 0) true ((rd_T36 t376 x9_1).f1) (wrap64 (x9_1 + 1))) else (zX.l0 k1 t376 true (((rd_T36 t376 x9_1).f2) != 0) true false (wrap64 (x9_1 + 1))))) else (if (rd_T36 t376 x9_1).f0 = true then (if x8_1 = true then (zX.l0 k1 t376 true (((rd_T36 t376 x9_1).f2) != 0) (!((rd_T36 t376 x9_1).f1)) true (wrap64 (x9_1 + 1))) else (zX.l0 k1 t376 true (((rd_T36 t376 x9_1).f2) != 0) (!((rd_T36 t376 x9_1).f1)) ((rd_T36 t376 x9_1).f1) (wrap64 (x9_1 + 1)))) else (if x8_1 = true then (zX.l0 k1 t376 true (((rd_T36 t376 x9_1).f2) != 0) false true (wrap64 (x9_1 + 1))) else (zX.l0 k1 t376 true (((rd_T36 t376 x9_1).f2) != 0) false false (wrap64 (x9_1 + 1)))))) else (if x7_1 = true then (if x8_1 = true then (zX.l0 k1 t376 true false true true (wrap64 (x9_1 + 1))) else (if (rd_T36 t376 x9_1).f0 = true then (zX.l0 k1 t376 true false true ((rd_T36 t376 x9_1).f1) (wrap64 (x9_1 + 1))) else (zX.l0 k1 t376 true false true false (wrap64 (x9_1 + 1))))) else (if (rd_T36 t376 x9_1).f0 = true then (if x8_1 = true then (zX.l0 k1 t376 true false (!((rd_T36 t376 x9_1).f1)) true (wrap64 (x9_1 + 1))) else (zX.l0 k1 t376 true false (!((rd_T36 t376 x9_1).f1)) ((rd_T36 t376 x9_1).f1) (wrap64 (x9_1 + 1)))) else (if x8_1 = true then (zX.l0 k1 t376 true false false true (wrap64 (x9_1 + 1))) else (zX.l0 k1 t376 true false false false (wrap64 (x9_1 + 1))))))))) = some (r1, r2) := by rw [if_pos rfl] at H; exact H
       clear H
       have H := H1
       clear H1
       by_cases c14 : x6_1 = true
       ·
        subst c14
        have H1 : (if x7_1 = true then (if x8_1 = true then (zX.l0 k1 t376 true true true true (wrap64 (x9_1 + 1))) else (if (rd_T36 t376 x9_1).f0 = true then (zX.l0 k1 t376 true true true ((rd_T36 t376 x9_1).f1) (wrap64 (x9_1 + 1))) else (zX.l0 k1 t376 true true true false (wrap64 (x9_1 + 1))))) else (if (rd_T36 t376 x9_1).f0 = true then (if x8_1 = true then (zX.l0 k1 t376 true true (!((rd_T36 t376 x9_1).f1)) true (wrap64 (x9_1 + 1))) else (zX.l0 k1 t376 true true (!((rd_T36 t376 x9_1).f1)) ((rd_T36 t376 x9_1).f1) (wrap64 (x9_1 + 1)))) else (if x8_1 = true then (zX.l0 k1 t376 true true false true (wrap64 (x9_1 + 1))) else (zX.l0 k1 t376 true true false false (wrap64 (x9_1 + 1)))))) = some (r1, r2) := by rw [if_pos rfl] at H; exact H
        clear H
        have H := H1
        clear H1
        by_cases c15 : x7_1 = true
        ·
         subst c15
         have H1 : (if x8_1 = true then (zX.l0 k1 t376 true true true true (wrap64 (x9_1 + 1))) else (if (rd_T36 t376 x9_1).f0 = true then (zX.l0 k1 t376 true true true ((rd_T36 t376 x9_1).f1) (wrap64 (x9_1 + 1))) else (zX.l0 k1 t376 true true true false (wrap64 (x9_1 + 1))))) = some (r1, r2) := by rw [if_pos rfl] at H; exact H
         clear H
         have H := H1
         clear H1
         by_cases c16 : x8_1 = true
         ·
          subst c16
          have H1 : (zX.l0 k1 t376 true true true true (wrap64 (x9_1 + 1))) = some (r1, r2) := by rw [if_pos rfl] at H; exact H
          clear H
          have H := H1
          clear H1
          have H' := zB.mk H
          clear H
          obtain ⟨Ao17, co17, eo17⟩ := Kd.R_slice HO_4.out
          subst eo17
          have p379 : 0 ≤ (x9_1 : Int) := of_decide_eq_true (by first | (with_reducible assumption) | assumption)
          have q379 : x9_1 < (t376.length : Int) := of_decide_eq_true (by first | (with_reducible assumption) | assumption)
          obtain ⟨ad379, e379, hx379_0, hx379_1, hx379_2⟩ := at_T36 (Kd.R_reads' HO_4.out).2.2 x9_1 p379 q379
          cases e379
          replace p379 := eq_true p379
          replace q379 := eq_true q379
          go_wp2_with (first | ((with_reducible refine zP (N := 10) rfl ?_); refine zO ?hg (N := 10) ?hd (cs := #[.bool false, .bool false, .int .i64 0]) (t := 36) ?hr ?_; (case hd => rfl); (case hg => rfl); (case hr => first | (go_simp; done) | (go_simp; rfl)); intro gb380 hg w18 hbox hb; have n0_ := zB.mk (Kd.R_below (Kd.R_elderB (by (with_reducible repeat (first | apply Kd.R_alloc | apply Kd.R_drewN | apply Kd.R_drew)); exact HO_4.out) gb380 (Nat.le_of_eq hg.symm)) hb); have n1_ := zB.mk (zN (g := gb374) (o := .cells #[.int .i64 a0_0, .int .i64 a0_1, .slice A0_2 l0_2.length c0_2] 28 (0, 0)) (by (with_reducible repeat (first | refine zC ?_ _ | refine zG ?_ | refine zD ?_ _)); exact BK374.out) hb); have n2_ := zB.mk (zK (by repeat (first | (with_reducible first | exact HB.out | apply zF | apply zA | apply zE | refine zH ?_ GE374.out) | exact HB.out)) hb); have n3_ := zB.mk (hbox); have n4_ := zB.mk ((by rw [hg]; exact (zM (by repeat (first | (with_reducible first | exact HB.out | apply zF | apply zA | apply zE | refine zH ?_ GE374.out) | exact HB.out))) : w.heap.size ≤ gb380)); have n5_ := n4_; have n6_ := zB.mk ((by rw [hg]; exact Nat.ne_of_lt (zQ (by (with_reducible repeat (first | refine zC ?_ _ | refine zG ?_ | refine zD ?_ _)); exact BK374.out)) : gb374 ≠ gb380)); have n7_ := zB.mk n6_.out.symm; clear HO_4; clear BK374; clear HB; have HO_4 := n0_; have BK374 := n1_; have HB := n2_; have BK380 := n3_; have GW380 := n4_; have GE380 := n5_; have NB374_380 := n6_; have NB380_374 := n7_; clear n0_ n1_ n2_ n3_ n4_ n5_ n6_ n7_; clear hb hbox hg; have hnb19 := NB380_374.out; have hnc19 := NB374_380.out; have hcz20_0 : w18.cell? ⟨gb380, 0, none⟩ = some (.bool false) := zJ BK380.out 0; have hcz20_1 : w18.cell? ⟨gb380, 1, none⟩ = some (.bool false) := zJ BK380.out 1; have hcz20_2 : w18.cell? ⟨gb380, 2, none⟩ = some (.int .i64 0) := zJ BK380.out 2; have hfz20_0 := zI BK380.out 0; have hfz20_1 := zI BK380.out 1; have hfz20_2 := zI BK380.out 2))
          go_roundg k1
          case measure => have := HK1.out; omega
          case rel => exact ⟨(true), (true), (true), (true), (wrap64 (x9_1 + 1)), (by first | rfl | (simp; done) | (simp [*]; done)), (by first | rfl | (simp; done) | (simp [*]; done)), (by first | rfl | (simp; done) | (simp [*]; done)), (by first | rfl | (simp; done) | (simp [*]; done)), (by first | rfl | (simp; done) | (simp [*]; done)), H', ⟨by have := HK1.out; omega⟩, ⟨by (with_reducible repeat (first | apply Kd.R_alloc | apply Kd.R_drewN | apply Kd.R_drew)); exact Kd.R_mono (Kd.R_far (p := ⟨gb380, 2, none⟩) (Kd.R_far (p := ⟨gb380, 1, none⟩) (Kd.R_far (p := ⟨gb380, 0, none⟩) (Kd.R_mono HO_4.out (fun k_ hk => (⟨hk, hk.2⟩ : _ ∧ k_ ≠ gb380))) (fun _ hk => hk.2) (.bool ((rd_T36 t376 x9_1).f0))) (fun _ hk => hk.2) (.bool ((rd_T36 t376 x9_1).f1))) (fun _ hk => hk.2) (.int .i64 ((rd_T36 t376 x9_1).f2))) (fun _ hk => trivial)⟩, ⟨by (with_reducible repeat (first | refine zC ?_ _ | refine zG ?_ | refine zD ?_ _)); refine zL ?_ NB374_380.out _; (with_reducible repeat (first | refine zC ?_ _ | refine zG ?_ | refine zD ?_ _)); refine zL ?_ NB374_380.out _; (with_reducible repeat (first | refine zC ?_ _ | refine zG ?_ | refine zD ?_ _)); refine zL ?_ NB374_380.out _; (with_reducible repeat (first | refine zC ?_ _ | refine zG ?_ | refine zD ?_ _)); exact BK374.out⟩, ⟨by repeat (first | (with_reducible first | exact HB.out | apply zF | apply zA | apply zE | refine zH ?_ GE374.out | refine zH ?_ GE380.out) | exact HB.out)⟩⟩
         ·
          replace c16 := Bool.eq_false_iff.mpr c16
          subst c16
          have H1 : (if (rd_T36 t376 x9_1).f0 = true then (zX.l0 k1 t376 true true true ((rd_T36 t376 x9_1).f1) (wrap64 (x9_1 + 1))) else (zX.l0 k1 t376 true true true false (wrap64 (x9_1 + 1)))) = some (r1, r2) := by rw [if_neg (show ¬ (false = true) by decide)] at H; exact H
          clear H
          have H := H1
          clear H1
          obtain ⟨bq21, hbq21⟩ : ∃ b_ : Bool, b_ = ((rd_T36 t376 x9_1).f0) := ⟨_, rfl⟩
          replace H : (if bq21 = true then (zX.l0 k1 t376 true true true ((rd_T36 t376 x9_1).f1) (wrap64 (x9_1 + 1))) else (zX.l0 k1 t376 true true true false (wrap64 (x9_1 + 1)))) = some (r1, r2) := by rw [← hbq21] at H; exact H
          have Nbq21 := zB.mk hbq21
          clear hbq21
          by_cases c22 : bq21 = true
          ·
           subst c22
           have H1 : (zX.l0 k1 t376 true true true ((rd_T36 t376 x9_1).f1) (wrap64 (x9_1 + 1))) = some (r1, r2) := by rw [if_pos rfl] at H; exact H
           clear H
           have H := H1
           clear H1
           have H' := zB.mk H
           clear H
           obtain ⟨Ao23, co23, eo23⟩ := Kd.R_slice HO_4.out
           subst eo23
           have p379 : 0 ≤ (x9_1 : Int) := of_decide_eq_true (by first | (with_reducible assumption) | assumption)
           have q379 : x9_1 < (t376.length : Int) := of_decide_eq_true (by first | (with_reducible assumption) | assumption)
           obtain ⟨ad379, e379, hx379_0, hx379_1, hx379_2⟩ := at_T36 (Kd.R_reads' HO_4.out).2.2 x9_1 p379 q379
           (try rw [← Nbq21.out] at hx379_0)
           (try rw [← Nbq21.out] at hx379_1)
           cases e379
           replace p379 := eq_true p379
           replace q379 := eq_true q379
           go_wp2_with (first | ((with_reducible refine zP (N := 10) rfl ?_); refine zO ?hg (N := 10) ?hd (cs := #[.bool false, .bool false, .int .i64 0]) (t := 36) ?hr ?_; (case hd => rfl); (case hg => rfl); (case hr => first | (go_simp; done) | (go_simp; rfl)); intro gb380 hg w24 hbox hb; have n0_ := zB.mk (Kd.R_below (Kd.R_elderB (by (with_reducible repeat (first | apply Kd.R_alloc | apply Kd.R_drewN | apply Kd.R_drew)); exact HO_4.out) gb380 (Nat.le_of_eq hg.symm)) hb); have n1_ := zB.mk (zN (g := gb374) (o := .cells #[.int .i64 a0_0, .int .i64 a0_1, .slice A0_2 l0_2.length c0_2] 28 (0, 0)) (by (with_reducible repeat (first | refine zC ?_ _ | refine zG ?_ | refine zD ?_ _)); exact BK374.out) hb); have n2_ := zB.mk (zK (by repeat (first | (with_reducible first | exact HB.out | apply zF | apply zA | apply zE | refine zH ?_ GE374.out) | exact HB.out)) hb); have n3_ := zB.mk (hbox); have n4_ := zB.mk ((by rw [hg]; exact (zM (by repeat (first | (with_reducible first | exact HB.out | apply zF | apply zA | apply zE | refine zH ?_ GE374.out) | exact HB.out))) : w.heap.size ≤ gb380)); have n5_ := n4_; have n6_ := zB.mk ((by rw [hg]; exact Nat.ne_of_lt (zQ (by (with_reducible repeat (first | refine zC ?_ _ | refine zG ?_ | refine zD ?_ _)); exact BK374.out)) : gb374 ≠ gb380)); have n7_ := zB.mk n6_.out.symm; clear HO_4; clear BK374; clear HB; have HO_4 := n0_; have BK374 := n1_; have HB := n2_; have BK380 := n3_; have GW380 := n4_; have GE380 := n5_; have NB374_380 := n6_; have NB380_374 := n7_; clear n0_ n1_ n2_ n3_ n4_ n5_ n6_ n7_; clear hb hbox hg; have hnb25 := NB380_374.out; have hnc25 := NB374_380.out; have hcz26_0 : w24.cell? ⟨gb380, 0, none⟩ = some (.bool false) := zJ BK380.out 0; have hcz26_1 : w24.cell? ⟨gb380, 1, none⟩ = some (.bool false) := zJ BK380.out 1; have hcz26_2 : w24.cell? ⟨gb380, 2, none⟩ = some (.int .i64 0) := zJ BK380.out 2; have hfz26_0 := zI BK380.out 0; have hfz26_1 := zI BK380.out 1; have hfz26_2 := zI BK380.out 2))
           go_roundg k1
           case measure => have := HK1.out; omega
           case rel => exact ⟨(true), (true), (true), ((rd_T36 t376 x9_1).f1), (wrap64 (x9_1 + 1)), (by first | rfl | (simp; done) | (simp [*]; done)), (by first | rfl | (simp; done) | (simp [*]; done)), (by first | rfl | (simp; done) | (simp [*]; done)), (by first | rfl | (simp; done) | (simp [*]; done)), (by first | rfl | (simp; done) | (simp [*]; done)), H', ⟨by have := HK1.out; omega⟩, ⟨by (with_reducible repeat (first | apply Kd.R_alloc | apply Kd.R_drewN | apply Kd.R_drew)); exact Kd.R_mono (Kd.R_far (p := ⟨gb380, 2, none⟩) (Kd.R_far (p := ⟨gb380, 1, none⟩) (Kd.R_far (p := ⟨gb380, 0, none⟩) (Kd.R_mono HO_4.out (fun k_ hk => (⟨hk, hk.2⟩ : _ ∧ k_ ≠ gb380))) (fun _ hk => hk.2) (.bool true)) (fun _ hk => hk.2) (.bool ((rd_T36 t376 x9_1).f1))) (fun _ hk => hk.2) (.int .i64 ((rd_T36 t376 x9_1).f2))) (fun _ hk => trivial)⟩, ⟨by (with_reducible repeat (first | refine zC ?_ _ | refine zG ?_ | refine zD ?_ _)); refine zL ?_ NB374_380.out _; (with_reducible repeat (first | refine zC ?_ _ | refine zG ?_ | refine zD ?_ _)); refine zL ?_ NB374_380.out _; (with_reducible repeat (first | refine zC ?_ _ | refine zG ?_ | refine zD ?_ _)); refine zL ?_ NB374_380.out _; (with_reducible repeat (first | refine zC ?_ _ | refine zG ?_ | refine zD ?_ _)); exact BK374.out⟩, ⟨by repeat (first | (with_reducible first | exact HB.out | apply zF | apply zA | apply zE | refine zH ?_ GE374.out | refine zH ?_ GE380.out) | exact HB.out)⟩⟩
          ·
           replace c22 := Bool.eq_false_iff.mpr c22
           subst c22
           have H1 : (zX.l0 k1 t376 true true true false (wrap64 (x9_1 + 1))) = some (r1, r2) := by rw [if_neg (show ¬ (false = true) by decide)] at H; exact H
           clear H
           have H := H1
           clear H1
           have H' := zB.mk H
           clear H
           obtain ⟨Ao27, co27, eo27⟩ := Kd.R_slice HO_4.out
           subst eo27
           have p379 : 0 ≤ (x9_1 : Int) := of_decide_eq_true (by first | (with_reducible assumption) | assumption)
           have q379 : x9_1 < (t376.length : Int) := of_decide_eq_true (by first | (with_reducible assumption) | assumption)
           obtain ⟨ad379, e379, hx379_0, hx379_1, hx379_2⟩ := at_T36 (Kd.R_reads' HO_4.out).2.2 x9_1 p379 q379
           (try rw [← Nbq21.out] at hx379_0)
           (try rw [← Nbq21.out] at hx379_1)
           cases e379
           replace p379 := eq_true p379
           replace q379 := eq_true q379
           go_wp2_with (first | ((with_reducible refine zP (N := 10) rfl ?_); refine zO ?hg (N := 10) ?hd (cs := #[.bool false, .bool false, .int .i64 0]) (t := 36) ?hr ?_; (case hd => rfl); (case hg => rfl); (case hr => first | (go_simp; done) | (go_simp; rfl)); intro gb380 hg w28 hbox hb; have n0_ := zB.mk (Kd.R_below (Kd.R_elderB (by (with_reducible repeat (first | apply Kd.R_alloc | apply Kd.R_drewN | apply Kd.R_drew)); exact HO_4.out) gb380 (Nat.le_of_eq hg.symm)) hb); have n1_ := zB.mk (zN (g := gb374) (o := .cells #[.int .i64 a0_0, .int .i64 a0_1, .slice A0_2 l0_2.length c0_2] 28 (0, 0)) (by (with_reducible repeat (first | refine zC ?_ _ | refine zG ?_ | refine zD ?_ _)); exact BK374.out) hb); have n2_ := zB.mk (zK (by repeat (first | (with_reducible first | exact HB.out | apply zF | apply zA | apply zE | refine zH ?_ GE374.out) | exact HB.out)) hb); have n3_ := zB.mk (hbox); have n4_ := zB.mk ((by rw [hg]; exact (zM (by repeat (first | (with_reducible first | exact HB.out | apply zF | apply zA | apply zE | refine zH ?_ GE374.out) | exact HB.out))) : w.heap.size ≤ gb380)); have n5_ := n4_; have n6_ := zB.mk ((by rw [hg]; exact Nat.ne_of_lt (zQ (by (with_reducible repeat (first | refine zC ?_ _ | refine zG ?_ | refine zD ?_ _)); exact BK374.out)) : gb374 ≠ gb380)); have n7_ := zB.mk n6_.out.symm; clear HO_4; clear BK374; clear HB; have HO_4 := n0_; have BK374 := n1_; have HB := n2_; have BK380 := n3_; have GW380 := n4_; have GE380 := n5_; have NB374_380 := n6_; have NB380_374 := n7_; clear n0_ n1_ n2_ n3_ n4_ n5_ n6_ n7_; clear hb hbox hg; have hnb29 := NB380_374.out; have hnc29 := NB374_380.out; have hcz30_0 : w28.cell? ⟨gb380, 0, none⟩ = some (.bool false) := zJ BK380.out 0; have hcz30_1 : w28.cell? ⟨gb380, 1, none⟩ = some (.bool false) := zJ BK380.out 1; have hcz30_2 : w28.cell? ⟨gb380, 2, none⟩ = some (.int .i64 0) := zJ BK380.out 2; have hfz30_0 := zI BK380.out 0; have hfz30_1 := zI BK380.out 1; have hfz30_2 := zI BK380.out 2))
           go_roundg k1
           case measure => have := HK1.out; omega
           case rel => exact ⟨(true), (true), (true), (false), (wrap64 (x9_1 + 1)), (by first | rfl | (simp; done) | (simp [*]; done)), (by first | rfl | (simp; done) | (simp [*]; done)), (by first | rfl | (simp; done) | (simp [*]; done)), (by first | rfl | (simp; done) | (simp [*]; done)), (by first | rfl | (simp; done) | (simp [*]; done)), H', ⟨by have := HK1.out; omega⟩, ⟨by (with_reducible repeat (first | apply Kd.R_alloc | apply Kd.R_drewN | apply Kd.R_drew)); exact Kd.R_mono (Kd.R_far (p := ⟨gb380, 2, none⟩) (Kd.R_far (p := ⟨gb380, 1, none⟩) (Kd.R_far (p := ⟨gb380, 0, none⟩) (Kd.R_mono HO_4.out (fun k_ hk => (⟨hk, hk.2⟩ : _ ∧ k_ ≠ gb380))) (fun _ hk => hk.2) (.bool false)) (fun _ hk => hk.2) (.bool ((rd_T36 t376 x9_1).f1))) (fun _ hk => hk.2) (.int .i64 ((rd_T36 t376 x9_1).f2))) (fun _ hk => trivial)⟩, ⟨by (with_reducible repeat (first | refine zC ?_ _ | refine zG ?_ | refine zD ?_ _)); refine zL ?_ NB374_380.out _; (with_reducible repeat (first | refine zC ?_ _ | refine zG ?_ | refine zD ?_ _)); refine zL ?_ NB374_380.out _; (with_reducible repeat (first | refine zC ?_ _ | refine zG ?_ | refine zD ?_ _)); refine zL ?_ NB374_380.out _; (with_reducible repeat (first | refine zC ?_ _ | refine zG ?_ | refine zD ?_ _)); exact BK374.out⟩, ⟨by repeat (first | (with_reducible first | exact HB.out | apply zF | apply zA | apply zE | refine zH ?_ GE374.out | refine zH ?_ GE380.out) | exact HB.out)⟩⟩
        ·
         replace c15 := Bool.eq_false_iff.mpr c15
         subst c15
         have H1 : (if (rd_T36 t376 x9_1).f0 = true then (if x8_1 = true then (zX.l0 k1 t376 true true (!((rd_T36 t376 x9_1).f1)) true (wrap64 (x9_1 + 1))) else (zX.l0 k1 t376 true true (!((rd_T36 t376 x9_1).f1)) ((rd_T36 t376 x9_1).f1) (wrap64 (x9_1 + 1)))) else (if x8_1 = true then (zX.l0 k1 t376 true true false true (wrap64 (x9_1 + 1))) else (zX.l0 k1 t376 true true false false (wrap64 (x9_1 + 1))))) = some (r1, r2) := by rw [if_neg (show ¬ (false = true) by decide)] at H; exact H
         clear H
         have H := H1
         clear H1
         obtain ⟨bq31, hbq31⟩ : ∃ b_ : Bool, b_ = ((rd_T36 t376 x9_1).f0) := ⟨_, rfl⟩
         replace H : (if bq31 = true then (if x8_1 = true then (zX.l0 k1 t376 true true (!((rd_T36 t376 x9_1).f1)) true (wrap64 (x9_1 + 1))) else (zX.l0 k1 t376 true true (!((rd_T36 t376 x9_1).f1)) ((rd_T36 t376 x9_1).f1) (wrap64 (x9_1 + 1)))) else (if x8_1 = true then (zX.l0 k1 t376 true true false true (wrap64 (x9_1 + 1))) else (zX.l0 k1 t376 true true false false (wrap64 (x9_1 + 1))))) = some (r1, r2) := by rw [← hbq31] at H; exact H
         have Nbq31 := zB.mk hbq31
         clear hbq31
         by_cases c32 : bq31 = true
         ·
          subst c32
          have H1 : (if x8_1 = true then (zX.l0 k1 t376 true true (!((rd_T36 t376 x9_1).f1)) true (wrap64 (x9_1 + 1))) else (zX.l0 k1 t376 true true (!((rd_T36 t376 x9_1).f1)) ((rd_T36 t376 x9_1).f1) (wrap64 (x9_1 + 1)))) = some (r1, r2) := by rw [if_pos rfl] at H; exact H
          clear H
          have H := H1
          clear H1
          by_cases c33 : x8_1 = true
          ·
           subst c33
           have H1 : (zX.l0 k1 t376 true true (!((rd_T36 t376 x9_1).f1)) true (wrap64 (x9_1 + 1))) = some (r1, r2) := by rw [if_pos rfl] at H; exact H
           clear H
           have H := H1
           clear H1
           have H' := zB.mk H
           clear H
           obtain ⟨Ao34, co34, eo34⟩ := Kd.R_slice HO_4.out
           subst eo34
           have p379 : 0 ≤ (x9_1 : Int) := of_decide_eq_true (by first | (with_reducible assumption) | assumption)
           have q379 : x9_1 < (t376.length : Int) := of_decide_eq_true (by first | (with_reducible assumption) | assumption)
           obtain ⟨ad379, e379, hx379_0, hx379_1, hx379_2⟩ := at_T36 (Kd.R_reads' HO_4.out).2.2 x9_1 p379 q379
           (try rw [← Nbq31.out] at hx379_0)
           (try rw [← Nbq31.out] at hx379_1)
           cases e379
           replace p379 := eq_true p379
           replace q379 := eq_true q379
           go_wp2_with (first | ((with_reducible refine zP (N := 10) rfl ?_); refine zO ?hg (N := 10) ?hd (cs := #[.bool false, .bool false, .int .i64 0]) (t := 36) ?hr ?_; (case hd => rfl); (case hg => rfl); (case hr => first | (go_simp; done) | (go_simp; rfl)); intro gb380 hg w35 hbox hb; have n0_ := zB.mk (Kd.R_below (Kd.R_elderB (by (with_reducible repeat (first | apply Kd.R_alloc | apply Kd.R_drewN | apply Kd.R_drew)); exact HO_4.out) gb380 (Nat.le_of_eq hg.symm)) hb); have n1_ := zB.mk (zN (g := gb374) (o := .cells #[.int .i64 a0_0, .int .i64 a0_1, .slice A0_2 l0_2.length c0_2] 28 (0, 0)) (by (with_reducible repeat (first | refine zC ?_ _ | refine zG ?_ | refine zD ?_ _)); exact BK374.out) hb); have n2_ := zB.mk (zK (by repeat (first | (with_reducible first | exact HB.out | apply zF | apply zA | apply zE | refine zH ?_ GE374.out) | exact HB.out)) hb); have n3_ := zB.mk (hbox); have n4_ := zB.mk ((by rw [hg]; exact (zM (by repeat (first | (with_reducible first | exact HB.out | apply zF | apply zA | apply zE | refine zH ?_ GE374.out) | exact HB.out))) : w.heap.size ≤ gb380)); have n5_ := n4_; have n6_ := zB.mk ((by rw [hg]; exact Nat.ne_of_lt (zQ (by (with_reducible repeat (first | refine zC ?_ _ | refine zG ?_ | refine zD ?_ _)); exact BK374.out)) : gb374 ≠ gb380)); have n7_ := zB.mk n6_.out.symm; clear HO_4; clear BK374; clear HB; have HO_4 := n0_; have BK374 := n1_; have HB := n2_; have BK380 := n3_; have GW380 := n4_; have GE380 := n5_; have NB374_380 := n6_; have NB380_374 := n7_; clear n0_ n1_ n2_ n3_ n4_ n5_ n6_ n7_; clear hb hbox hg; have hnb36 := NB380_374.out; have hnc36 := NB374_380.out; have hcz37_0 : w35.cell? ⟨gb380, 0, none⟩ = some (.bool false) := zJ BK380.out 0; have hcz37_1 : w35.cell? ⟨gb380, 1, none⟩ = some (.bool false) := zJ BK380.out 1; have hcz37_2 : w35.cell? ⟨gb380, 2, none⟩ = some (.int .i64 0) := zJ BK380.out 2; have hfz37_0 := zI BK380.out 0; have hfz37_1 := zI BK380.out 1; have hfz37_2 := zI BK380.out 2))
           go_roundg k1
           case measure => have := HK1.out; omega
           case rel => exact ⟨(true), (true), (!((rd_T36 t376 x9_1).f1)), (true), (wrap64 (x9_1 + 1)), (by first | rfl | (simp; done) | (simp [*]; done)), (by first | rfl | (simp; done) | (simp [*]; done)), (by first | rfl | (simp; done) | (simp [*]; done)), (by first | rfl | (simp; done) | (simp [*]; done)), (by first | rfl | (simp; done) | (simp [*]; done)), H', ⟨by have := HK1.out; omega⟩, ⟨by (with_reducible repeat (first | apply Kd.R_alloc | apply Kd.R_drewN | apply Kd.R_drew)); exact Kd.R_mono (Kd.R_far (p := ⟨gb380, 2, none⟩) (Kd.R_far (p := ⟨gb380, 1, none⟩) (Kd.R_far (p := ⟨gb380, 0, none⟩) (Kd.R_mono HO_4.out (fun k_ hk => (⟨hk, hk.2⟩ : _ ∧ k_ ≠ gb380))) (fun _ hk => hk.2) (.bool true)) (fun _ hk => hk.2) (.bool ((rd_T36 t376 x9_1).f1))) (fun _ hk => hk.2) (.int .i64 ((rd_T36 t376 x9_1).f2))) (fun _ hk => trivial)⟩, ⟨by (with_reducible repeat (first | refine zC ?_ _ | refine zG ?_ | refine zD ?_ _)); refine zL ?_ NB374_380.out _; (with_reducible repeat (first | refine zC ?_ _ | refine zG ?_ | refine zD ?_ _)); refine zL ?_ NB374_380.out _; (with_reducible repeat (first | refine zC ?_ _ | refine zG ?_ | refine zD ?_ _)); refine zL ?_ NB374_380.out _; (with_reducible repeat (first | refine zC ?_ _ | refine zG ?_ | refine zD ?_ _)); exact BK374.out⟩, ⟨by repeat (first | (with_reducible first | exact HB.out | apply zF | apply zA | apply zE | refine zH ?_ GE374.out | refine zH ?_ GE380.out) | exact HB.out)⟩⟩
          ·
           replace c33 := Bool.eq_false_iff.mpr c33
           subst c33
           have H1 : (zX.l0 k1 t376 true true (!((rd_T36 t376 x9_1).f1)) ((rd_T36 t376 x9_1).f1) (wrap64 (x9_1 + 1))) = some (r1, r2) := by rw [if_neg (show ¬ (false = true) by decide)] at H; exact H
           clear H
           have H := H1
           clear H1
           have H' := zB.mk H
           clear H
           obtain ⟨Ao38, co38, eo38⟩ := Kd.R_slice HO_4.out
           subst eo38
           have p379 : 0 ≤ (x9_1 : Int) := of_decide_eq_true (by first | (with_reducible assumption) | assumption)
           have q379 : x9_1 < (t376.length : Int) := of_decide_eq_true (by first | (with_reducible assumption) | assumption)
           obtain ⟨ad379, e379, hx379_0, hx379_1, hx379_2⟩ := at_T36 (Kd.R_reads' HO_4.out).2.2 x9_1 p379 q379
           (try rw [← Nbq31.out] at hx379_0)
           (try rw [← Nbq31.out] at hx379_1)
           cases e379
           replace p379 := eq_true p379
           replace q379 := eq_true q379
           go_wp2_with (first | ((with_reducible refine zP (N := 10) rfl ?_); refine zO ?hg (N := 10) ?hd (cs := #[.bool false, .bool false, .int .i64 0]) (t := 36) ?hr ?_; (case hd => rfl); (case hg => rfl); (case hr => first | (go_simp; done) | (go_simp; rfl)); intro gb380 hg w39 hbox hb; have n0_ := zB.mk (Kd.R_below (Kd.R_elderB (by (with_reducible repeat (first | apply Kd.R_alloc | apply Kd.R_drewN | apply Kd.R_drew)); exact HO_4.out) gb380 (Nat.le_of_eq hg.symm)) hb); have n1_ := zB.mk (zN (g := gb374) (o := .cells #[.int .i64 a0_0, .int .i64 a0_1, .slice A0_2 l0_2.length c0_2] 28 (0, 0)) (by (with_reducible repeat (first | refine zC ?_ _ | refine zG ?_ | refine zD ?_ _)); exact BK374.out) hb); have n2_ := zB.mk (zK (by repeat (first | (with_reducible first | exact HB.out | apply zF | apply zA | apply zE | refine zH ?_ GE374.out) | exact HB.out)) hb); have n3_ := zB.mk (hbox); have n4_ := zB.mk ((by rw [hg]; exact (zM (by repeat (first | (with_reducible first | exact HB.out | apply zF | apply zA | apply zE | refine zH ?_ GE374.out) | exact HB.out))) : w.heap.size ≤ gb380)); have n5_ := n4_; have n6_ := zB.mk ((by rw [hg]; exact Nat.ne_of_lt (zQ (by (with_reducible repeat (first | refine zC ?_ _ | refine zG ?_ | refine zD ?_ _)); exact BK374.out)) : gb374 ≠ gb380)); have n7_ := zB.mk n6_.out.symm; clear HO_4; clear BK374; clear HB; have HO_4 := n0_; have BK374 := n1_; have HB := n2_; have BK380 := n3_; have GW380 := n4_; have GE380 := n5_; have NB374_380 := n6_; have NB380_374 := n7_; clear n0_ n1_ n2_ n3_ n4_ n5_ n6_ n7_; clear hb hbox hg; have hnb40 := NB380_374.out; have hnc40 := NB374_380.out; have hcz41_0 : w39.cell? ⟨gb380, 0, none⟩ = some (.bool false) := zJ BK380.out 0; have hcz41_1 : w39.cell? ⟨gb380, 1, none⟩ = some (.bool false) := zJ BK380.out 1; have hcz41_2 : w39.cell? ⟨gb380, 2, none⟩ = some (.int .i64 0) := zJ BK380.out 2; have hfz41_0 := zI BK380.out 0; have hfz41_1 := zI BK380.out 1; have hfz41_2 := zI BK380.out 2))
           go_roundg k1
           case measure => have := HK1.out; omega
           case rel => exact ⟨(true), (true), (!((rd_T36 t376 x9_1).f1)), ((rd_T36 t376 x9_1).f1), (wrap64 (x9_1 + 1)), (by first | rfl | (simp; done) | (simp [*]; done)), (by first | rfl | (simp; done) | (simp [*]; done)), (by first | rfl | (simp; done) | (simp [*]; done)), (by first | rfl | (simp; done) | (simp [*]; done)), (by first | rfl | (simp; done) | (simp [*]; done)), H', ⟨by have := HK1.out; omega⟩, ⟨by (with_reducible repeat (first | apply Kd.R_alloc | apply Kd.R_drewN | apply Kd.R_drew)); exact Kd.R_mono (Kd.R_far (p := ⟨gb380, 2, none⟩) (Kd.R_far (p := ⟨gb380, 1, none⟩) (Kd.R_far (p := ⟨gb380, 0, none⟩) (Kd.R_mono HO_4.out (fun k_ hk => (⟨hk, hk.2⟩ : _ ∧ k_ ≠ gb380))) (fun _ hk => hk.2) (.bool true)) (fun _ hk => hk.2) (.bool ((rd_T36 t376 x9_1).f1))) (fun _ hk => hk.2) (.int .i64 ((rd_T36 t376 x9_1).f2))) (fun _ hk => trivial)⟩, ⟨by (with_reducible repeat (first | refine zC ?_ _ | refine zG ?_ | refine zD ?_ _)); refine zL ?_ NB374_380.out _; (with_reducible repeat (first | refine zC ?_ _ | refine zG ?_ | refine zD ?_ _)); refine zL ?_ NB374_380.out _; (with_reducible repeat (first | refine zC ?_ _ | refine zG ?_ | refine zD ?_ _)); refine zL ?_ NB374_380.out _; (with_reducible repeat (first | refine zC ?_ _ | refine zG ?_ | refine zD ?_ _)); exact BK374.out⟩, ⟨by repeat (first | (with_reducible first | exact HB.out | apply zF | apply zA | apply zE | refine zH ?_ GE374.out | refine zH ?_ GE380.out) | exact HB.out)⟩⟩
         ·
          replace c32 := Bool.eq_false_iff.mpr c32
          subst c32
          have H1 : (if x8_1 = true then (zX.l0 k1 t376 true true false true (wrap64 (x9_1 + 1))) else (zX.l0 k1 t376 true true false false (wrap64 (x9_1 + 1)))) = some (r1, r2) := by rw [if_neg (show ¬ (false = true) by decide)] at H; exact H
          clear H
          have H := H1
          clear H1
          by_cases c42 : x8_1 = true
          ·
           subst c42
           have H1 : (zX.l0 k1 t376 true true false true (wrap64 (x9_1 + 1))) = some (r1, r2) := by rw [if_pos rfl] at H; exact H
           clear H
           have H := H1
           clear H1
           have H' := zB.mk H
           clear H
           obtain ⟨Ao43, co43, eo43⟩ := Kd.R_slice HO_4.out
           subst eo43
           have p379 : 0 ≤ (x9_1 : Int) := of_decide_eq_true (by first | (with_reducible assumption) | assumption)
           have q379 : x9_1 < (t376.length : Int) := of_decide_eq_true (by first | (with_reducible assumption) | assumption)
           obtain ⟨ad379, e379, hx379_0, hx379_1, hx379_2⟩ := at_T36 (Kd.R_reads' HO_4.out).2.2 x9_1 p379 q379
           (try rw [← Nbq31.out] at hx379_0)
           (try rw [← Nbq31.out] at hx379_1)
           cases e379
           replace p379 := eq_true p379
           replace q379 := eq_true q379
           go_wp2_with (first | ((with_reducible refine zP (N := 10) rfl ?_); refine zO ?hg (N := 10) ?hd (cs := #[.bool false, .bool false, .int .i64 0]) (t := 36) ?hr ?_; (case hd => rfl); (case hg => rfl); (case hr => first | (go_simp; done) | (go_simp; rfl)); intro gb380 hg w44 hbox hb; have n0_ := zB.mk (Kd.R_below (Kd.R_elderB (by (with_reducible repeat (first | apply Kd.R_alloc | apply Kd.R_drewN | apply Kd.R_drew)); exact HO_4.out) gb380 (Nat.le_of_eq hg.symm)) hb); have n1_ := zB.mk (zN (g := gb374) (o := .cells #[.int .i64 a0_0, .int .i64 a0_1, .slice A0_2 l0_2.length c0_2] 28 (0, 0)) (by (with_reducible repeat (first | refine zC ?_ _ | refine zG ?_ | refine zD ?_ _)); exact BK374.out) hb); have n2_ := zB.mk (zK (by repeat (first | (with_reducible first | exact HB.out | apply zF | apply zA | apply zE | refine zH ?_ GE374.out) | exact HB.out)) hb); have n3_ := zB.mk (hbox); have n4_ := zB.mk ((by rw [hg]; exact (zM (by repeat (first | (with_reducible first | exact HB.out | apply zF | apply zA | apply zE | refine zH ?_ GE374.out) | exact HB.out))) : w.heap.size ≤ gb380)); have n5_ := n4_; have n6_ := zB.mk ((by rw [hg]; exact Nat.ne_of_lt (zQ (by (with_reducible repeat (first | refine zC ?_ _ | refine zG ?_ | refine zD ?_ _)); exact BK374.out)) : gb374 ≠ gb380)); have n7_ := zB.mk n6_.out.symm; clear HO_4; clear BK374; clear HB; have HO_4 := n0_; have BK374 := n1_; have HB := n2_; have BK380 := n3_; have GW380 := n4_; have GE380 := n5_; have NB374_380 := n6_; have NB380_374 := n7_; clear n0_ n1_ n2_ n3_ n4_ n5_ n6_ n7_; clear hb hbox hg; have hnb45 := NB380_374.out; have hnc45 := NB374_380.out; have hcz46_0 : w44.cell? ⟨gb380, 0, none⟩ = some (.bool false) := zJ BK380.out 0; have hcz46_1 : w44.cell? ⟨gb380, 1, none⟩ = some (.bool false) := zJ BK380.out 1; have hcz46_2 : w44.cell? ⟨gb380, 2, none⟩ = some (.int .i64 0) := zJ BK380.out 2; have hfz46_0 := zI BK380.out 0; have hfz46_1 := zI BK380.out 1; have hfz46_2 := zI BK380.out 2))
           go_roundg k1
           case measure => have := HK1.out; omega
           case rel => exact ⟨(true), (true), (false), (true), (wrap64 (x9_1 + 1)), (by first | rfl | (simp; done) | (simp [*]; done)), (by first | rfl | (simp; done) | (simp [*]; done)), (by first | rfl | (simp; done) | (simp [*]; done)), (by first | rfl | (simp; done) | (simp [*]; done)), (by first | rfl | (simp; done) | (simp [*]; done)), H', ⟨by have := HK1.out; omega⟩, ⟨by (with_reducible repeat (first | apply Kd.R_alloc | apply Kd.R_drewN | apply Kd.R_drew)); exact Kd.R_mono (Kd.R_far (p := ⟨gb380, 2, none⟩) (Kd.R_far (p := ⟨gb380, 1, none⟩) (Kd.R_far (p := ⟨gb380, 0, none⟩) (Kd.R_mono HO_4.out (fun k_ hk => (⟨hk, hk.2⟩ : _ ∧ k_ ≠ gb380))) (fun _ hk => hk.2) (.bool false)) (fun _ hk => hk.2) (.bool ((rd_T36 t376 x9_1).f1))) (fun _ hk => hk.2) (.int .i64 ((rd_T36 t376 x9_1).f2))) (fun _ hk => trivial)⟩, ⟨by (with_reducible repeat (first | refine zC ?_ _ | refine zG ?_ | refine zD ?_ _)); refine zL ?_ NB374_380.out _; (with_reducible repeat (first | refine zC ?_ _ | refine zG ?_ | refine zD ?_ _)); refine zL ?_ NB374_380.out _; (with_reducible repeat (first | refine zC ?_ _ | refine zG ?_ | refine zD ?_ _)); refine zL ?_ NB374_380.out _; (with_reducible repeat (first | refine zC ?_ _ | refine zG ?_ | refine zD ?_ _)); exact BK374.out⟩, ⟨by repeat (first | (with_reducible first | exact HB.out | apply zF | apply zA | apply zE | refine zH ?_ GE374.out | refine zH ?_ GE380.out) | exact HB.out)⟩⟩
          ·
           replace c42 := Bool.eq_false_iff.mpr c42
           subst c42
           have H1 : (zX.l0 k1 t376 true true false false (wrap64 (x9_1 + 1))) = some (r1, r2) := by rw [if_neg (show ¬ (false = true) by decide)] at H; exact H
           clear H
           have H := H1
           clear H1
           have H' := zB.mk H
           clear H
           obtain ⟨Ao47, co47, eo47⟩ := Kd.R_slice HO_4.out
           subst eo47
           have p379 : 0 ≤ (x9_1 : Int) := of_decide_eq_true (by first | (with_reducible assumption) | assumption)
           have q379 : x9_1 < (t376.length : Int) := of_decide_eq_true (by first | (with_reducible assumption) | assumption)
           obtain ⟨ad379, e379, hx379_0, hx379_1, hx379_2⟩ := at_T36 (Kd.R_reads' HO_4.out).2.2 x9_1 p379 q379
           (try rw [← Nbq31.out] at hx379_0)
           (try rw [← Nbq31.out] at hx379_1)
           cases e379
           replace p379 := eq_true p379
           replace q379 := eq_true q379
           go_wp2_with (first | ((with_reducible refine zP (N := 10) rfl ?_); refine zO ?hg (N := 10) ?hd (cs := #[.bool false, .bool false, .int .i64 0]) (t := 36) ?hr ?_; (case hd => rfl); (case hg => rfl); (case hr => first | (go_simp; done) | (go_simp; rfl)); intro gb380 hg w48 hbox hb; have n0_ := zB.mk (Kd.R_below (Kd.R_elderB (by (with_reducible repeat (first | apply Kd.R_alloc | apply Kd.R_drewN | apply Kd.R_drew)); exact HO_4.out) gb380 (Nat.le_of_eq hg.symm)) hb); have n1_ := zB.mk (zN (g := gb374) (o := .cells #[.int .i64 a0_0, .int .i64 a0_1, .slice A0_2 l0_2.length c0_2] 28 (0, 0)) (by (with_reducible repeat (first | refine zC ?_ _ | refine zG ?_ | refine zD ?_ _)); exact BK374.out) hb); have n2_ := zB.mk (zK (by repeat (first | (with_reducible first | exact HB.out | apply zF | apply zA | apply zE | refine zH ?_ GE374.out) | exact HB.out)) hb); have n3_ := zB.mk (hbox); have n4_ := zB.mk ((by rw [hg]; exact (zM (by repeat (first | (with_reducible first | exact HB.out | apply zF | apply zA | apply zE | refine zH ?_ GE374.out) | exact HB.out))) : w.heap.size ≤ gb380)); have n5_ := n4_; have n6_ := zB.mk ((by rw [hg]; exact Nat.ne_of_lt (zQ (by (with_reducible repeat (first | refine zC ?_ _ | refine zG ?_ | refine zD ?_ _)); exact BK374.out)) : gb374 ≠ gb380)); have n7_ := zB.mk n6_.out.symm; clear HO_4; clear BK374; clear HB; have HO_4 := n0_; have BK374 := n1_; have HB := n2_; have BK380 := n3_; have GW380 := n4_; have GE380 := n5_; have NB374_380 := n6_; have NB380_374 := n7_; clear n0_ n1_ n2_ n3_ n4_ n5_ n6_ n7_; clear hb hbox hg; have hnb49 := NB380_374.out; have hnc49 := NB374_380.out; have hcz50_0 : w48.cell? ⟨gb380, 0, none⟩ = some (.bool false) := zJ BK380.out 0; have hcz50_1 : w48.cell? ⟨gb380, 1, none⟩ = some (.bool false) := zJ BK380.out 1; have hcz50_2 : w48.cell? ⟨gb380, 2, none⟩ = some (.int .i64 0) := zJ BK380.out 2; have hfz50_0 := zI BK380.out 0; have hfz50_1 := zI BK380.out 1; have hfz50_2 := zI BK380.out 2))
           go_roundg k1
           case measure => have := HK1.out; omega
           case rel => exact ⟨(true), (true), (false), (false), (wrap64 (x9_1 + 1)), (by first | rfl | (simp; done) | (simp [*]; done)), (by first | rfl | (simp; done) | (simp [*]; done)), (by first | rfl | (simp; done) | (simp [*]; done)), (by first | rfl | (simp; done) | (simp [*]; done)), (by first | rfl | (simp; done) | (simp [*]; done)), H', ⟨by have := HK1.out; omega⟩, ⟨by (with_reducible repeat (first | apply Kd.R_alloc | apply Kd.R_drewN | apply Kd.R_drew)); exact Kd.R_mono (Kd.R_far (p := ⟨gb380, 2, none⟩) (Kd.R_far (p := ⟨gb380, 1, none⟩) (Kd.R_far (p := ⟨gb380, 0, none⟩) (Kd.R_mono HO_4.out (fun k_ hk => (⟨hk, hk.2⟩ : _ ∧ k_ ≠ gb380))) (fun _ hk => hk.2) (.bool false)) (fun _ hk => hk.2) (.bool ((rd_T36 t376 x9_1).f1))) (fun _ hk => hk.2) (.int .i64 ((rd_T36 t376 x9_1).f2))) (fun _ hk => trivial)⟩, ⟨by (with_reducible repeat (first | refine zC ?_ _ | refine zG ?_ | refine zD ?_ _)); refine zL ?_ NB374_380.out _; (with_reducible repeat (first | refine zC ?_ _ | refine zG ?_ | refine zD ?_ _)); refine zL ?_ NB374_380.out _; (with_reducible repeat (first | refine zC ?_ _ | refine zG ?_ | refine zD ?_ _)); refine zL ?_ NB374_380.out _; (with_reducible repeat (first | refine zC ?_ _ | refine zG ?_ | refine zD ?_ _)); exact BK374.out⟩, ⟨by repeat (first | (with_reducible first | exact HB.out | apply zF | apply zA | apply zE | refine zH ?_ GE374.out | refine zH ?_ GE380.out) | exact HB.out)⟩⟩
       ·
        replace c14 := Bool.eq_false_iff.mpr c14
        subst c14
        have H1 : (if ((rd_T36 t376 x9_1).f0 = true) then (if x7_1 = true then (if x8_1 = true then (zX.l0 k1 t376 true false true true (wrap64 (x9_1 + 1))) else (if (rd_T36 t376 x9_1).f0 = true then (zX.l0 k1 t376 true false true ((rd_T36 t376 x9_1).f1) (wrap64 (x9_1 + 1))) else (zX.l0 k1 t376 true false true false (wrap64 (x9_1 + 1))))) else (if (rd_T36 t376 x9_1).f0 = true then (if x8_1 = true then (zX.l0 k1 t376 true false (!((rd_T36 t376 x9_1).f1)) true (wrap64 (x9_1 + 1))) else (zX.l0 k1 t376 true false (!((rd_T36 t376 x9_1).f1)) ((rd_T36 t376 x9_1).f1) (wrap64 (x9_1 + 1)))) else (if x8_1 = true then (zX.l0 k1 t376 true false false true (wrap64 (x9_1 + 1))) else (zX.l0 k1 t376 true false false false (wrap64 (x9_1 + 1)))))) else (if (rd_T36 t376 x9_1).f1 = true then (if x7_1 = true then (if x8_1 = true then (zX.l0 k1 t376 true (((rd_T36 t376 x9_1).f2) != 0) true true (wrap64 (x9_1 + 1))) else (if (rd_T36 t376 x9_1).f0 = true then (zX.l0 k1 t376 true (((rd_T36 t376 x9_1).f2) != 0) true ((rd_T36 t376 x9_1).f1) (wrap64 (x9_1 + 1))) else (zX.l0 k1 t376 true (((rd_T36 t376 x9_1).f2) != 0) true false (wrap64 (x9_1 + 1))))) else (if (rd_T36 t376 x9_1).f0 = true then (if x8_1 = true then (zX.l0 k1 t376 true (((rd_T36 t376 x9_1).f2) != 0) (!((rd_T36 t376 x9_1).f1)) true (wrap64 (x9_1 + 1))) else (zX.l0 k1 t376 true (((rd_T36 t376 x9_1).f2) != 0) (!((rd_T36 t376 x9_1).f1)) ((rd_T36 t376 x9_1).f1) (wrap64 (x9_1 + 1)))) else (if x8_1 = true then (zX.l0 k1 t376 true (((rd_T36 t376 x9_1).f2) != 0) false true (wrap64 (x9_1 + 1))) else (zX.l0 k1 t376 true (((rd_T36 t376 x9_1).f2) != 0) false false (wrap64 (x9_1 + 1)))))) else (if x7_1 = true then (if x8_1 = true then (zX.l0 k1 t376 true false true true (wrap64 (x9_1 + 1))) else (if (rd_T36 t376 x9_1).f0 = true then (zX.l0 k1 t376 true false true ((rd_T36 t376 x9_1).f1) (wrap64 (x9_1 + 1))) else (zX.l0 k1 t376 true false true false (wrap64 (x9_1 + 1))))) else (if (rd_T36 t376 x9_1).f0 = true then (if x8_1 = true then (zX.l0 k1 t376 true false (!((rd_T36 t376 x9_1).f1)) true (wrap64 (x9_1 + 1))) else (zX.l0 k1 t376 true false (!((rd_T36 t376 x9_1).f1)) ((rd_T36 t376 x9_1).f1) (wrap64 (x9_1 + 1)))) else (if x8_1 = true then (zX.l0 k1 t376 true false false true (wrap64 (x9_1 + 1))) else (zX.l0 k1 t376 true false false false (wrap64 (x9_1 + 1)))))))) = some (r1, r2) := by rw [if_neg (show ¬ (false = true) by decide)] at H; exact H
        clear H
        have H := H1
        clear H1
        obtain ⟨bq51, hbq51⟩ : ∃ b_ : Bool, b_ = ((rd_T36 t376 x9_1).f0) := ⟨_, rfl⟩
        replace H : (if (bq51 = true) then (if x7_1 = true then (if x8_1 = true then (zX.l0 k1 t376 true false true true (wrap64 (x9_1 + 1))) else (if bq51 = true then (zX.l0 k1 t376 true false true ((rd_T36 t376 x9_1).f1) (wrap64 (x9_1 + 1))) else (zX.l0 k1 t376 true false true false (wrap64 (x9_1 + 1))))) else (if bq51 = true then (if x8_1 = true then (zX.l0 k1 t376 true false (!((rd_T36 t376 x9_1).f1)) true (wrap64 (x9_1 + 1))) else (zX.l0 k1 t376 true false (!((rd_T36 t376 x9_1).f1)) ((rd_T36 t376 x9_1).f1) (wrap64 (x9_1 + 1)))) else (if x8_1 = true then (zX.l0 k1 t376 true false false true (wrap64 (x9_1 + 1))) else (zX.l0 k1 t376 true false false false (wrap64 (x9_1 + 1)))))) else (if (rd_T36 t376 x9_1).f1 = true then (if x7_1 = true then (if x8_1 = true then (zX.l0 k1 t376 true (((rd_T36 t376 x9_1).f2) != 0) true true (wrap64 (x9_1 + 1))) else (if bq51 = true then (zX.l0 k1 t376 true (((rd_T36 t376 x9_1).f2) != 0) true ((rd_T36 t376 x9_1).f1) (wrap64 (x9_1 + 1))) else (zX.l0 k1 t376 true (((rd_T36 t376 x9_1).f2) != 0) true false (wrap64 (x9_1 + 1))))) else (if bq51 = true then (if x8_1 = true then (zX.l0 k1 t376 true (((rd_T36 t376 x9_1).f2) != 0) (!((rd_T36 t376 x9_1).f1)) true (wrap64 (x9_1 + 1))) else (zX.l0 k1 t376 true (((rd_T36 t376 x9_1).f2) != 0) (!((rd_T36 t376 x9_1).f1)) ((rd_T36 t376 x9_1).f1) (wrap64 (x9_1 + 1)))) else (if x8_1 = true then (zX.l0 k1 t376 true (((rd_T36 t376 x9_1).f2) != 0) false true (wrap64 (x9_1 + 1))) else (zX.l0 k1 t376 true (((rd_T36 t376 x9_1).f2) != 0) false false (wrap64 (x9_1 + 1)))))) else (if x7_1 = true then (if x8_1 = true then (zX.l0 k1 t376 true false true true (wrap64 (x9_1 + 1))) else (if bq51 = true then (zX.l0 k1 t376 true false true ((rd_T36 t376 x9_1).f1) (wrap64 (x9_1 + 1))) else (zX.l0 k1 t376 true false true false (wrap64 (x9_1 + 1))))) else (if bq51 = true then (if x8_1 = true then (zX.l0 k1 t376 true false (!((rd_T36 t376 x9_1).f1)) true (wrap64 (x9_1 + 1))) else (zX.l0 k1 t376 true false (!((rd_T36 t376 x9_1).f1)) ((rd_T36 t376 x9_1).f1) (wrap64 (x9_1 + 1)))) else (if x8_1 = true then (zX.l0 k1 t376 true false false true (wrap64 (x9_1 + 1))) else (zX.l0 k1 t376 true false false false (wrap64 (x9_1 + 1)))))))) = some (r1, r2) := by rw [← hbq51] at H; exact H
        have Nbq51 := zB.mk hbq51
        clear hbq51
        by_cases c52 : (bq51 = true)
        ·
         subst c52
         have H1 : (if x7_1 = true then (if x8_1 = true then (zX.l0 k1 t376 true false true true (wrap64 (x9_1 + 1))) else (if true = true then (zX.l0 k1 t376 true false true ((rd_T36 t376 x9_1).f1) (wrap64 (x9_1 + 1))) else (zX.l0 k1 t376 true false true false (wrap64 (x9_1 + 1))))) else (if true = true then (if x8_1 = true then (zX.l0 k1 t376 true false (!((rd_T36 t376 x9_1).f1)) true (wrap64 (x9_1 + 1))) else (zX.l0 k1 t376 true false (!((rd_T36 t376 x9_1).f1)) ((rd_T36 t376 x9_1).f1) (wrap64 (x9_1 + 1)))) else (if x8_1 = true then (zX.l0 k1 t376 true false false true (wrap64 (x9_1 + 1))) else (zX.l0 k1 t376 true false false false (wrap64 (x9_1 + 1)))))) = some (r1, r2) := by rw [if_pos rfl] at H; exact H
         clear H
         have H := H1
         clear H1
         by_cases c53 : x7_1 = true
         ·
          subst c53
          have H1 : (if x8_1 = true then (zX.l0 k1 t376 true false true true (wrap64 (x9_1 + 1))) else (if true = true then (zX.l0 k1 t376 true false true ((rd_T36 t376 x9_1).f1) (wrap64 (x9_1 + 1))) else (zX.l0 k1 t376 true false true false (wrap64 (x9_1 + 1))))) = some (r1, r2) := by rw [if_pos rfl] at H; exact H
          clear H
          have H := H1
          clear H1
          by_cases c54 : x8_1 = true
          ·
           subst c54
           have H1 : (zX.l0 k1 t376 true false true true (wrap64 (x9_1 + 1))) = some (r1, r2) := by rw [if_pos rfl] at H; exact H
           clear H
           have H := H1
           clear H1
           have H' := zB.mk H
           clear H
           obtain ⟨Ao55, co55, eo55⟩ := Kd.R_slice HO_4.out
           subst eo55
           have p379 : 0 ≤ (x9_1 : Int) := of_decide_eq_true (by first | (with_reducible assumption) | assumption)
           have q379 : x9_1 < (t376.length : Int) := of_decide_eq_true (by first | (with_reducible assumption) | assumption)
           obtain ⟨ad379, e379, hx379_0, hx379_1, hx379_2⟩ := at_T36 (Kd.R_reads' HO_4.out).2.2 x9_1 p379 q379
           (try rw [← Nbq51.out] at hx379_0)
           (try rw [← Nbq51.out] at hx379_1)
           cases e379
           replace p379 := eq_true p379
           replace q379 := eq_true q379
           go_wp2_with (first | ((with_reducible refine zP (N := 10) rfl ?_); refine zO ?hg (N := 10) ?hd (cs := #[.bool false, .bool false, .int .i64 0]) (t := 36) ?hr ?_; (case hd => rfl); (case hg => rfl); (case hr => first | (go_simp; done) | (go_simp; rfl)); intro gb380 hg w56 hbox hb; have n0_ := zB.mk (Kd.R_below (Kd.R_elderB (by (with_reducible repeat (first | apply Kd.R_alloc | apply Kd.R_drewN | apply Kd.R_drew)); exact HO_4.out) gb380 (Nat.le_of_eq hg.symm)) hb); have n1_ := zB.mk (zN (g := gb374) (o := .cells #[.int .i64 a0_0, .int .i64 a0_1, .slice A0_2 l0_2.length c0_2] 28 (0, 0)) (by (with_reducible repeat (first | refine zC ?_ _ | refine zG ?_ | refine zD ?_ _)); exact BK374.out) hb); have n2_ := zB.mk (zK (by repeat (first | (with_reducible first | exact HB.out | apply zF | apply zA | apply zE | refine zH ?_ GE374.out) | exact HB.out)) hb); have n3_ := zB.mk (hbox); have n4_ := zB.mk ((by rw [hg]; exact (zM (by repeat (first | (with_reducible first | exact HB.out | apply zF | apply zA | apply zE | refine zH ?_ GE374.out) | exact HB.out))) : w.heap.size ≤ gb380)); have n5_ := n4_; have n6_ := zB.mk ((by rw [hg]; exact Nat.ne_of_lt (zQ (by (with_reducible repeat (first | refine zC ?_ _ | refine zG ?_ | refine zD ?_ _)); exact BK374.out)) : gb374 ≠ gb380)); have n7_ := zB.mk n6_.out.symm; clear HO_4; clear BK374; clear HB; have HO_4 := n0_; have BK374 := n1_; have HB := n2_; have BK380 := n3_; have GW380 := n4_; have GE380 := n5_; have NB374_380 := n6_; have NB380_374 := n7_; clear n0_ n1_ n2_ n3_ n4_ n5_ n6_ n7_; clear hb hbox hg; have hnb57 := NB380_374.out; have hnc57 := NB374_380.out; have hcz58_0 : w56.cell? ⟨gb380, 0, none⟩ = some (.bool false) := zJ BK380.out 0; have hcz58_1 : w56.cell? ⟨gb380, 1, none⟩ = some (.bool false) := zJ BK380.out 1; have hcz58_2 : w56.cell? ⟨gb380, 2, none⟩ = some (.int .i64 0) := zJ BK380.out 2; have hfz58_0 := zI BK380.out 0; have hfz58_1 := zI BK380.out 1; have hfz58_2 := zI BK380.out 2))
           go_roundg k1
           case measure => have := HK1.out; omega
           case rel => exact ⟨(true), (false), (true), (true), (wrap64 (x9_1 + 1)), (by first | rfl | (simp; done) | (simp [*]; done)), (by first | rfl | (simp; done) | (simp [*]; done)), (by first | rfl | (simp; done) | (simp [*]; done)), (by first | rfl | (simp; done) | (simp [*]; done)), (by first | rfl | (simp; done) | (simp [*]; done)), H', ⟨by have := HK1.out; omega⟩, ⟨by (with_reducible repeat (first | apply Kd.R_alloc | apply Kd.R_drewN | apply Kd.R_drew)); exact Kd.R_mono (Kd.R_far (p := ⟨gb380, 2, none⟩) (Kd.R_far (p := ⟨gb380, 1, none⟩) (Kd.R_far (p := ⟨gb380, 0, none⟩) (Kd.R_mono HO_4.out (fun k_ hk => (⟨hk, hk.2⟩ : _ ∧ k_ ≠ gb380))) (fun _ hk => hk.2) (.bool true)) (fun _ hk => hk.2) (.bool ((rd_T36 t376 x9_1).f1))) (fun _ hk => hk.2) (.int .i64 ((rd_T36 t376 x9_1).f2))) (fun _ hk => trivial)⟩, ⟨by (with_reducible repeat (first | refine zC ?_ _ | refine zG ?_ | refine zD ?_ _)); refine zL ?_ NB374_380.out _; (with_reducible repeat (first | refine zC ?_ _ | refine zG ?_ | refine zD ?_ _)); refine zL ?_ NB374_380.out _; (with_reducible repeat (first | refine zC ?_ _ | refine zG ?_ | refine zD ?_ _)); refine zL ?_ NB374_380.out _; (with_reducible repeat (first | refine zC ?_ _ | refine zG ?_ | refine zD ?_ _)); exact BK374.out⟩, ⟨by repeat (first | (with_reducible first | exact HB.out | apply zF | apply zA | apply zE | refine zH ?_ GE374.out | refine zH ?_ GE380.out) | exact HB.out)⟩⟩
          ·
           replace c54 := Bool.eq_false_iff.mpr c54
           subst c54
           have H1 : (if true = true then (zX.l0 k1 t376 true false true ((rd_T36 t376 x9_1).f1) (wrap64 (x9_1 + 1))) else (zX.l0 k1 t376 true false true false (wrap64 (x9_1 + 1)))) = some (r1, r2) := by rw [if_neg (show ¬ (false = true) by decide)] at H; exact H
           clear H
           have H := H1
           clear H1
           have H1 : (zX.l0 k1 t376 true false true ((rd_T36 t376 x9_1).f1) (wrap64 (x9_1 + 1))) = some (r1, r2) := by rw [if_pos rfl] at H; exact H
           clear H
           have H := H1
           clear H1
           have H' := zB.mk H
           clear H
           obtain ⟨Ao59, co59, eo59⟩ := Kd.R_slice HO_4.out
           subst eo59
           have p379 : 0 ≤ (x9_1 : Int) := of_decide_eq_true (by first | (with_reducible assumption) | assumption)
           have q379 : x9_1 < (t376.length : Int) := of_decide_eq_true (by first | (with_reducible assumption) | assumption)
           obtain ⟨ad379, e379, hx379_0, hx379_1, hx379_2⟩ := at_T36 (Kd.R_reads' HO_4.out).2.2 x9_1 p379 q379
           (try rw [← Nbq51.out] at hx379_0)
           (try rw [← Nbq51.out] at hx379_1)
           cases e379
           replace p379 := eq_true p379
           replace q379 := eq_true q379
           go_wp2_with (first | ((with_reducible refine zP (N := 10) rfl ?_); refine zO ?hg (N := 10) ?hd (cs := #[.bool false, .bool false, .int .i64 0]) (t := 36) ?hr ?_; (case hd => rfl); (case hg => rfl); (case hr => first | (go_simp; done) | (go_simp; rfl)); intro gb380 hg w60 hbox hb; have n0_ := zB.mk (Kd.R_below (Kd.R_elderB (by (with_reducible repeat (first | apply Kd.R_alloc | apply Kd.R_drewN | apply Kd.R_drew)); exact HO_4.out) gb380 (Nat.le_of_eq hg.symm)) hb); have n1_ := zB.mk (zN (g := gb374) (o := .cells #[.int .i64 a0_0, .int .i64 a0_1, .slice A0_2 l0_2.length c0_2] 28 (0, 0)) (by (with_reducible repeat (first | refine zC ?_ _ | refine zG ?_ | refine zD ?_ _)); exact BK374.out) hb); have n2_ := zB.mk (zK (by repeat (first | (with_reducible first | exact HB.out | apply zF | apply zA | apply zE | refine zH ?_ GE374.out) | exact HB.out)) hb); have n3_ := zB.mk (hbox); have n4_ := zB.mk ((by rw [hg]; exact (zM (by repeat (first | (with_reducible first | exact HB.out | apply zF | apply zA | apply zE | refine zH ?_ GE374.out) | exact HB.out))) : w.heap.size ≤ gb380)); have n5_ := n4_; have n6_ := zB.mk ((by rw [hg]; exact Nat.ne_of_lt (zQ (by (with_reducible repeat (first | refine zC ?_ _ | refine zG ?_ | refine zD ?_ _)); exact BK374.out)) : gb374 ≠ gb380)); have n7_ := zB.mk n6_.out.symm; clear HO_4; clear BK374; clear HB; have HO_4 := n0_; have BK374 := n1_; have HB := n2_; have BK380 := n3_; have GW380 := n4_; have GE380 := n5_; have NB374_380 := n6_; have NB380_374 := n7_; clear n0_ n1_ n2_ n3_ n4_ n5_ n6_ n7_; clear hb hbox hg; have hnb61 := NB380_374.out; have hnc61 := NB374_380.out; have hcz62_0 : w60.cell? ⟨gb380, 0, none⟩ = some (.bool false) := zJ BK380.out 0; have hcz62_1 : w60.cell? ⟨gb380, 1, none⟩ = some (.bool false) := zJ BK380.out 1; have hcz62_2 : w60.cell? ⟨gb380, 2, none⟩ = some (.int .i64 0) := zJ BK380.out 2; have hfz62_0 := zI BK380.out 0; have hfz62_1 := zI BK380.out 1; have hfz62_2 := zI BK380.out 2))
           go_roundg k1
           case measure => have := HK1.out; omega
           case rel => exact ⟨(true), (false), (true), ((rd_T36 t376 x9_1).f1), (wrap64 (x9_1 + 1)), (by first | rfl | (simp; done) | (simp [*]; done)), (by first | rfl | (simp; done) | (simp [*]; done)), (by first | rfl | (simp; done) | (simp [*]; done)), (by first | rfl | (simp; done) | (simp [*]; done)), (by first | rfl | (simp; done) | (simp [*]; done)), H', ⟨by have := HK1.out; omega⟩, ⟨by (with_reducible repeat (first | apply Kd.R_alloc | apply Kd.R_drewN | apply Kd.R_drew)); exact Kd.R_mono (Kd.R_far (p := ⟨gb380, 2, none⟩) (Kd.R_far (p := ⟨gb380, 1, none⟩) (Kd.R_far (p := ⟨gb380, 0, none⟩) (Kd.R_mono HO_4.out (fun k_ hk => (⟨hk, hk.2⟩ : _ ∧ k_ ≠ gb380))) (fun _ hk => hk.2) (.bool true)) (fun _ hk => hk.2) (.bool ((rd_T36 t376 x9_1).f1))) (fun _ hk => hk.2) (.int .i64 ((rd_T36 t376 x9_1).f2))) (fun _ hk => trivial)⟩, ⟨by (with_reducible repeat (first | refine zC ?_ _ | refine zG ?_ | refine zD ?_ _)); refine zL ?_ NB374_380.out _; (with_reducible repeat (first | refine zC ?_ _ | refine zG ?_ | refine zD ?_ _)); refine zL ?_ NB374_380.out _; (with_reducible repeat (first | refine zC ?_ _ | refine zG ?_ | refine zD ?_ _)); refine zL ?_ NB374_380.out _; (with_reducible repeat (first | refine zC ?_ _ | refine zG ?_ | refine zD ?_ _)); exact BK374.out⟩, ⟨by repeat (first | (with_reducible first | exact HB.out | apply zF | apply zA | apply zE | refine zH ?_ GE374.out | refine zH ?_ GE380.out) | exact HB.out)⟩⟩
         ·
          replace c53 := Bool.eq_false_iff.mpr c53
          subst c53
          have H1 : (if true = true then (if x8_1 = true then (zX.l0 k1 t376 true false (!((rd_T36 t376 x9_1).f1)) true (wrap64 (x9_1 + 1))) else (zX.l0 k1 t376 true false (!((rd_T36 t376 x9_1).f1)) ((rd_T36 t376 x9_1).f1) (wrap64 (x9_1 + 1)))) else (if x8_1 = true then (zX.l0 k1 t376 true false false true (wrap64 (x9_1 + 1))) else (zX.l0 k1 t376 true false false false (wrap64 (x9_1 + 1))))) = some (r1, r2) := by rw [if_neg (show ¬ (false = true) by decide)] at H; exact H
          clear H
          have H := H1
          clear H1
          have H1 : (if x8_1 = true then (zX.l0 k1 t376 true false (!((rd_T36 t376 x9_1).f1)) true (wrap64 (x9_1 + 1))) else (zX.l0 k1 t376 true false (!((rd_T36 t376 x9_1).f1)) ((rd_T36 t376 x9_1).f1) (wrap64 (x9_1 + 1)))) = some (r1, r2) := by rw [if_pos rfl] at H; exact H
          clear H
          have H := H1
          clear H1
          by_cases c63 : x8_1 = true
          ·
           subst c63
           have H1 : (zX.l0 k1 t376 true false (!((rd_T36 t376 x9_1).f1)) true (wrap64 (x9_1 + 1))) = some (r1, r2) := by rw [if_pos rfl] at H; exact H
           clear H
           have H := H1
           clear H1
           have H' := zB.mk H
           clear H
           obtain ⟨Ao64, co64, eo64⟩ := Kd.R_slice HO_4.out
           subst eo64
           have p379 : 0 ≤ (x9_1 : Int) := of_decide_eq_true (by first | (with_reducible assumption) | assumption)
           have q379 : x9_1 < (t376.length : Int) := of_decide_eq_true (by first | (with_reducible assumption) | assumption)
           obtain ⟨ad379, e379, hx379_0, hx379_1, hx379_2⟩ := at_T36 (Kd.R_reads' HO_4.out).2.2 x9_1 p379 q379
           (try rw [← Nbq51.out] at hx379_0)
           (try rw [← Nbq51.out] at hx379_1)
           cases e379
           replace p379 := eq_true p379
           replace q379 := eq_true q379
           go_wp2_with (first | ((with_reducible refine zP (N := 10) rfl ?_); refine zO ?hg (N := 10) ?hd (cs := #[.bool false, .bool false, .int .i64 0]) (t := 36) ?hr ?_; (case hd => rfl); (case hg => rfl); (case hr => first | (go_simp; done) | (go_simp; rfl)); intro gb380 hg w65 hbox hb; have n0_ := zB.mk (Kd.R_below (Kd.R_elderB (by (with_reducible repeat (first | apply Kd.R_alloc | apply Kd.R_drewN | apply Kd.R_drew)); exact HO_4.out) gb380 (Nat.le_of_eq hg.symm)) hb); have n1_ := zB.mk (zN (g := gb374) (o := .cells #[.int .i64 a0_0, .int .i64 a0_1, .slice A0_2 l0_2.length c0_2] 28 (0, 0)) (by (with_reducible repeat (first | refine zC ?_ _ | refine zG ?_ | refine zD ?_ _)); exact BK374.out) hb); have n2_ := zB.mk (zK (by repeat (first | (with_reducible first | exact HB.out | apply zF | apply zA | apply zE | refine zH ?_ GE374.out) | exact HB.out)) hb); have n3_ := zB.mk (hbox); have n4_ := zB.mk ((by rw [hg]; exact (zM (by repeat (first | (with_reducible first | exact HB.out | apply zF | apply zA | apply zE | refine zH ?_ GE374.out) | exact HB.out))) : w.heap.size ≤ gb380)); have n5_ := n4_; have n6_ := zB.mk ((by rw [hg]; exact Nat.ne_of_lt (zQ (by (with_reducible repeat (first | refine zC ?_ _ | refine zG ?_ | refine zD ?_ _)); exact BK374.out)) : gb374 ≠ gb380)); have n7_ := zB.mk n6_.out.symm; clear HO_4; clear BK374; clear HB; have HO_4 := n0_; have BK374 := n1_; have HB := n2_; have BK380 := n3_; have GW380 := n4_; have GE380 := n5_; have NB374_380 := n6_; have NB380_374 := n7_; clear n0_ n1_ n2_ n3_ n4_ n5_ n6_ n7_; clear hb hbox hg; have hnb66 := NB380_374.out; have hnc66 := NB374_380.out; have hcz67_0 : w65.cell? ⟨gb380, 0, none⟩ = some (.bool false) := zJ BK380.out 0; have hcz67_1 : w65.cell? ⟨gb380, 1, none⟩ = some (.bool false) := zJ BK380.out 1; have hcz67_2 : w65.cell? ⟨gb380, 2, none⟩ = some (.int .i64 0) := zJ BK380.out 2; have hfz67_0 := zI BK380.out 0; have hfz67_1 := zI BK380.out 1; have hfz67_2 := zI BK380.out 2))
           go_roundg k1
           case measure => have := HK1.out; omega
           case rel => exact ⟨(true), (false), (!((rd_T36 t376 x9_1).f1)), (true), (wrap64 (x9_1 + 1)), (by first | rfl | (simp; done) | (simp [*]; done)), (by first | rfl | (simp; done) | (simp [*]; done)), (by first | rfl | (simp; done) | (simp [*]; done)), (by first | rfl | (simp; done) | (simp [*]; done)), (by first | rfl | (simp; done) | (simp [*]; done)), H', ⟨by have := HK1.out; omega⟩, ⟨by (with_reducible repeat (first | apply Kd.R_alloc | apply Kd.R_drewN | apply Kd.R_drew)); exact Kd.R_mono (Kd.R_far (p := ⟨gb380, 2, none⟩) (Kd.R_far (p := ⟨gb380, 1, none⟩) (Kd.R_far (p := ⟨gb380, 0, none⟩) (Kd.R_mono HO_4.out (fun k_ hk => (⟨hk, hk.2⟩ : _ ∧ k_ ≠ gb380))) (fun _ hk => hk.2) (.bool true)) (fun _ hk => hk.2) (.bool ((rd_T36 t376 x9_1).f1))) (fun _ hk => hk.2) (.int .i64 ((rd_T36 t376 x9_1).f2))) (fun _ hk => trivial)⟩, ⟨by (with_reducible repeat (first | refine zC ?_ _ | refine zG ?_ | refine zD ?_ _)); refine zL ?_ NB374_380.out _; (with_reducible repeat (first | refine zC ?_ _ | refine zG ?_ | refine zD ?_ _)); refine zL ?_ NB374_380.out _; (with_reducible repeat (first | refine zC ?_ _ | refine zG ?_ | refine zD ?_ _)); refine zL ?_ NB374_380.out _; (with_reducible repeat (first | refine zC ?_ _ | refine zG ?_ | refine zD ?_ _)); exact BK374.out⟩, ⟨by repeat (first | (with_reducible first | exact HB.out | apply zF | apply zA | apply zE | refine zH ?_ GE374.out | refine zH ?_ GE380.out) | exact HB.out)⟩⟩
          ·
           replace c63 := Bool.eq_false_iff.mpr c63
           subst c63
           have H1 : (zX.l0 k1 t376 true false (!((rd_T36 t376 x9_1).f1)) ((rd_T36 t376 x9_1).f1) (wrap64 (x9_1 + 1))) = some (r1, r2) := by rw [if_neg (show ¬ (false = true) by decide)] at H; exact H
           clear H
           have H := H1
           clear H1
           have H' := zB.mk H
           clear H
           obtain ⟨Ao68, co68, eo68⟩ := Kd.R_slice HO_4.out
           subst eo68
           have p379 : 0 ≤ (x9_1 : Int) := of_decide_eq_true (by first | (with_reducible assumption) | assumption)
           have q379 : x9_1 < (t376.length : Int) := of_decide_eq_true (by first | (with_reducible assumption) | assumption)
           obtain ⟨ad379, e379, hx379_0, hx379_1, hx379_2⟩ := at_T36 (Kd.R_reads' HO_4.out).2.2 x9_1 p379 q379
           (try rw [← Nbq51.out] at hx379_0)
           (try rw [← Nbq51.out] at hx379_1)
           cases e379
           replace p379 := eq_true p379
           replace q379 := eq_true q379
           go_wp2_with (first | ((with_reducible refine zP (N := 10) rfl ?_); refine zO ?hg (N := 10) ?hd (cs := #[.bool false, .bool false, .int .i64 0]) (t := 36) ?hr ?_; (case hd => rfl); (case hg => rfl); (case hr => first | (go_simp; done) | (go_simp; rfl)); intro gb380 hg w69 hbox hb; have n0_ := zB.mk (Kd.R_below (Kd.R_elderB (by (with_reducible repeat (first | apply Kd.R_alloc | apply Kd.R_drewN | apply Kd.R_drew)); exact HO_4.out) gb380 (Nat.le_of_eq hg.symm)) hb); have n1_ := zB.mk (zN (g := gb374) (o := .cells #[.int .i64 a0_0, .int .i64 a0_1, .slice A0_2 l0_2.length c0_2] 28 (0, 0)) (by (with_reducible repeat (first | refine zC ?_ _ | refine zG ?_ | refine zD ?_ _)); exact BK374.out) hb); have n2_ := zB.mk (zK (by repeat (first | (with_reducible first | exact HB.out | apply zF | apply zA | apply zE | refine zH ?_ GE374.out) | exact HB.out)) hb); have n3_ := zB.mk (hbox); have n4_ := zB.mk ((by rw [hg]; exact (zM (by repeat (first | (with_reducible first | exact HB.out | apply zF | apply zA | apply zE | refine zH ?_ GE374.out) | exact HB.out))) : w.heap.size ≤ gb380)); have n5_ := n4_; have n6_ := zB.mk ((by rw [hg]; exact Nat.ne_of_lt (zQ (by (with_reducible repeat (first | refine zC ?_ _ | refine zG ?_ | refine zD ?_ _)); exact BK374.out)) : gb374 ≠ gb380)); have n7_ := zB.mk n6_.out.symm; clear HO_4; clear BK374; clear HB; have HO_4 := n0_; have BK374 := n1_; have HB := n2_; have BK380 := n3_; have GW380 := n4_; have GE380 := n5_; have NB374_380 := n6_; have NB380_374 := n7_; clear n0_ n1_ n2_ n3_ n4_ n5_ n6_ n7_; clear hb hbox hg; have hnb70 := NB380_374.out; have hnc70 := NB374_380.out; have hcz71_0 : w69.cell? ⟨gb380, 0, none⟩ = some (.bool false) := zJ BK380.out 0; have hcz71_1 : w69.cell? ⟨gb380, 1, none⟩ = some (.bool false) := zJ BK380.out 1; have hcz71_2 : w69.cell? ⟨gb380, 2, none⟩ = some (.int .i64 0) := zJ BK380.out 2; have hfz71_0 := zI BK380.out 0; have hfz71_1 := zI BK380.out 1; have hfz71_2 := zI BK380.out 2))
           go_roundg k1
           case measure => have := HK1.out; omega
           case rel => exact ⟨(true), (false), (!((rd_T36 t376 x9_1).f1)), ((rd_T36 t376 x9_1).f1), (wrap64 (x9_1 + 1)), (by first | rfl | (simp; done) | (simp [*]; done)), (by first | rfl | (simp; done) | (simp [*]; done)), (by first | rfl | (simp; done) | (simp [*]; done)), (by first | rfl | (simp; done) | (simp [*]; done)), (by first | rfl | (simp; done) | (simp [*]; done)), H', ⟨by have := HK1.out; omega⟩, ⟨by (with_reducible repeat (first | apply Kd.R_alloc | apply Kd.R_drewN | apply Kd.R_drew)); exact Kd.R_mono (Kd.R_far (p := ⟨gb380, 2, none⟩) (Kd.R_far (p := ⟨gb380, 1, none⟩) (Kd.R_far (p := ⟨gb380, 0, none⟩) (Kd.R_mono HO_4.out (fun k_ hk => (⟨hk, hk.2⟩ : _ ∧ k_ ≠ gb380))) (fun _ hk => hk.2) (.bool true)) (fun _ hk => hk.2) (.bool ((rd_T36 t376 x9_1).f1))) (fun _ hk => hk.2) (.int .i64 ((rd_T36 t376 x9_1).f2))) (fun _ hk => trivial)⟩, ⟨by (with_reducible repeat (first | refine zC ?_ _ | refine zG ?_ | refine zD ?_ _)); refine zL ?_ NB374_380.out _; (with_reducible repeat (first | refine zC ?_ _ | refine zG ?_ | refine zD ?_ _)); refine zL ?_ NB374_380.out _; (with_reducible repeat (first | refine zC ?_ _ | refine zG ?_ | refine zD ?_ _)); refine zL ?_ NB374_380.out _; (with_reducible repeat (first | refine zC ?_ _ | refine zG ?_ | refine zD ?_ _)); exact BK374.out⟩, ⟨by repeat (first | (with_reducible first | exact HB.out | apply zF | apply zA | apply zE | refine zH ?_ GE374.out | refine zH ?_ GE380.out) | exact HB.out)⟩⟩
        ·
         replace c52 := Bool.eq_false_iff.mpr c52
         subst c52
         have H1 : (if (rd_T36 t376 x9_1).f1 = true then (if x7_1 = true then (if x8_1 = true then (zX.l0 k1 t376 true (((rd_T36 t376 x9_1).f2) != 0) true true (wrap64 (x9_1 + 1))) else (if false = true then (zX.l0 k1 t376 true (((rd_T36 t376 x9_1).f2) != 0) true ((rd_T36 t376 x9_1).f1) (wrap64 (x9_1 + 1))) else (zX.l0 k1 t376 true (((rd_T36 t376 x9_1).f2) != 0) true false (wrap64 (x9_1 + 1))))) else (if false = true then (if x8_1 = true then (zX.l0 k1 t376 true (((rd_T36 t376 x9_1).f2) != 0) (!((rd_T36 t376 x9_1).f1)) true (wrap64 (x9_1 + 1))) else (zX.l0 k1 t376 true (((rd_T36 t376 x9_1).f2) != 0) (!((rd_T36 t376 x9_1).f1)) ((rd_T36 t376 x9_1).f1) (wrap64 (x9_1 + 1)))) else (if x8_1 = true then (zX.l0 k1 t376 true (((rd_T36 t376 x9_1).f2) != 0) false true (wrap64 (x9_1 + 1))) else (zX.l0 k1 t376 true (((rd_T36 t376 x9_1).f2) != 0) false false (wrap64 (x9_1 + 1)))))) else (if x7_1 = true then (if x8_1 = true then (zX.l0 k1 t376 true false true true (wrap64 (x9_1 + 1))) else (if false = true then (zX.l0 k1 t376 true false true ((rd_T36 t376 x9_1).f1) (wrap64 (x9_1 + 1))) else (zX.l0 k1 t376 true false true false (wrap64 (x9_1 + 1))))) else (if false = true then (if x8_1 = true then (zX.l0 k1 t376 true false (!((rd_T36 t376 x9_1).f1)) true (wrap64 (x9_1 + 1))) else (zX.l0 k1 t376 true false (!((rd_T36 t376 x9_1).f1)) ((rd_T36 t376 x9_1).f1) (wrap64 (x9_1 + 1)))) else (if x8_1 = true then (zX.l0 k1 t376 true false false true (wrap64 (x9_1 + 1))) else (zX.l0 k1 t376 true false false false (wrap64 (x9_1 + 1))))))) = some (r1, r2) := by rw [if_neg (show ¬ (false = true) by decide)] at H; exact H
         clear H
         have H := H1
         clear H1
         obtain ⟨bq72, hbq72⟩ : ∃ b_ : Bool, b_ = ((rd_T36 t376 x9_1).f1) := ⟨_, rfl⟩
         replace H : (if bq72 = true then (if x7_1 = true then (if x8_1 = true then (zX.l0 k1 t376 true (((rd_T36 t376 x9_1).f2) != 0) true true (wrap64 (x9_1 + 1))) else (if false = true then (zX.l0 k1 t376 true (((rd_T36 t376 x9_1).f2) != 0) true bq72 (wrap64 (x9_1 + 1))) else (zX.l0 k1 t376 true (((rd_T36 t376 x9_1).f2) != 0) true false (wrap64 (x9_1 + 1))))) else (if false = true then (if x8_1 = true then (zX.l0 k1 t376 true (((rd_T36 t376 x9_1).f2) != 0) (!(bq72)) true (wrap64 (x9_1 + 1))) else (zX.l0 k1 t376 true (((rd_T36 t376 x9_1).f2) != 0) (!(bq72)) bq72 (wrap64 (x9_1 + 1)))) else (if x8_1 = true then (zX.l0 k1 t376 true (((rd_T36 t376 x9_1).f2) != 0) false true (wrap64 (x9_1 + 1))) else (zX.l0 k1 t376 true (((rd_T36 t376 x9_1).f2) != 0) false false (wrap64 (x9_1 + 1)))))) else (if x7_1 = true then (if x8_1 = true then (zX.l0 k1 t376 true false true true (wrap64 (x9_1 + 1))) else (if false = true then (zX.l0 k1 t376 true false true bq72 (wrap64 (x9_1 + 1))) else (zX.l0 k1 t376 true false true false (wrap64 (x9_1 + 1))))) else (if false = true then (if x8_1 = true then (zX.l0 k1 t376 true false (!(bq72)) true (wrap64 (x9_1 + 1))) else (zX.l0 k1 t376 true false (!(bq72)) bq72 (wrap64 (x9_1 + 1)))) else (if x8_1 = true then (zX.l0 k1 t376 true false false true (wrap64 (x9_1 + 1))) else (zX.l0 k1 t376 true false false false (wrap64 (x9_1 + 1))))))) = some (r1, r2) := by rw [← hbq72] at H; exact H
         have Nbq72 := zB.mk hbq72
         clear hbq72
         by_cases c73 : bq72 = true
         ·
          subst c73
          have H1 : (if x7_1 = true then (if x8_1 = true then (zX.l0 k1 t376 true (((rd_T36 t376 x9_1).f2) != 0) true true (wrap64 (x9_1 + 1))) else (if false = true then (zX.l0 k1 t376 true (((rd_T36 t376 x9_1).f2) != 0) true true (wrap64 (x9_1 + 1))) else (zX.l0 k1 t376 true (((rd_T36 t376 x9_1).f2) != 0) true false (wrap64 (x9_1 + 1))))) else (if false = true then (if x8_1 = true then (zX.l0 k1 t376 true (((rd_T36 t376 x9_1).f2) != 0) (!(true)) true (wrap64 (x9_1 + 1))) else (zX.l0 k1 t376 true (((rd_T36 t376 x9_1).f2) != 0) (!(true)) true (wrap64 (x9_1 + 1)))) else (if x8_1 = true then (zX.l0 k1 t376 true (((rd_T36 t376 x9_1).f2) != 0) false true (wrap64 (x9_1 + 1))) else (zX.l0 k1 t376 true (((rd_T36 t376 x9_1).f2) != 0) false false (wrap64 (x9_1 + 1)))))) = some (r1, r2) := by rw [if_pos rfl] at H; exact H
          clear H
          have H := H1
          clear H1
          by_cases c74 : x7_1 = true
          ·
           subst c74
           have H1 : (if x8_1 = true then (zX.l0 k1 t376 true (((rd_T36 t376 x9_1).f2) != 0) true true (wrap64 (x9_1 + 1))) else (if false = true then (zX.l0 k1 t376 true (((rd_T36 t376 x9_1).f2) != 0) true true (wrap64 (x9_1 + 1))) else (zX.l0 k1 t376 true (((rd_T36 t376 x9_1).f2) != 0) true false (wrap64 (x9_1 + 1))))) = some (r1, r2) := by rw [if_pos rfl] at H; exact H
           clear H
           have H := H1
           clear H1
           by_cases c75 : x8_1 = true
           ·
            subst c75
            have H1 : (zX.l0 k1 t376 true (((rd_T36 t376 x9_1).f2) != 0) true true (wrap64 (x9_1 + 1))) = some (r1, r2) := by rw [if_pos rfl] at H; exact H
            clear H
            have H := H1
            clear H1
            have H' := zB.mk H
            clear H
            obtain ⟨Ao76, co76, eo76⟩ := Kd.R_slice HO_4.out
            subst eo76
            have p379 : 0 ≤ (x9_1 : Int) := of_decide_eq_true (by first | (with_reducible assumption) | assumption)
            have q379 : x9_1 < (t376.length : Int) := of_decide_eq_true (by first | (with_reducible assumption) | assumption)
            obtain ⟨ad379, e379, hx379_0, hx379_1, hx379_2⟩ := at_T36 (Kd.R_reads' HO_4.out).2.2 x9_1 p379 q379
            (try rw [← Nbq51.out] at hx379_0)
            (try rw [← Nbq72.out] at hx379_0)
            (try rw [← Nbq51.out] at hx379_1)
            (try rw [← Nbq72.out] at hx379_1)
            cases e379
            replace p379 := eq_true p379
            replace q379 := eq_true q379
            go_wp2_with (first | ((with_reducible refine zP (N := 10) rfl ?_); refine zO ?hg (N := 10) ?hd (cs := #[.bool false, .bool false, .int .i64 0]) (t := 36) ?hr ?_; (case hd => rfl); (case hg => rfl); (case hr => first | (go_simp; done) | (go_simp; rfl)); intro gb380 hg w77 hbox hb; have n0_ := zB.mk (Kd.R_below (Kd.R_elderB (by (with_reducible repeat (first | apply Kd.R_alloc | apply Kd.R_drewN | apply Kd.R_drew)); exact HO_4.out) gb380 (Nat.le_of_eq hg.symm)) hb); have n1_ := zB.mk (zN (g := gb374) (o := .cells #[.int .i64 a0_0, .int .i64 a0_1, .slice A0_2 l0_2.length c0_2] 28 (0, 0)) (by (with_reducible repeat (first | refine zC ?_ _ | refine zG ?_ | refine zD ?_ _)); exact BK374.out) hb); have n2_ := zB.mk (zK (by repeat (first | (with_reducible first | exact HB.out | apply zF | apply zA | apply zE | refine zH ?_ GE374.out) | exact HB.out)) hb); have n3_ := zB.mk (hbox); have n4_ := zB.mk ((by rw [hg]; exact (zM (by repeat (first | (with_reducible first | exact HB.out | apply zF | apply zA | apply zE | refine zH ?_ GE374.out) | exact HB.out))) : w.heap.size ≤ gb380)); have n5_ := n4_; have n6_ := zB.mk ((by rw [hg]; exact Nat.ne_of_lt (zQ (by (with_reducible repeat (first | refine zC ?_ _ | refine zG ?_ | refine zD ?_ _)); exact BK374.out)) : gb374 ≠ gb380)); have n7_ := zB.mk n6_.out.symm; clear HO_4; clear BK374; clear HB; have HO_4 := n0_; have BK374 := n1_; have HB := n2_; have BK380 := n3_; have GW380 := n4_; have GE380 := n5_; have NB374_380 := n6_; have NB380_374 := n7_; clear n0_ n1_ n2_ n3_ n4_ n5_ n6_ n7_; clear hb hbox hg; have hnb78 := NB380_374.out; have hnc78 := NB374_380.out; have hcz79_0 : w77.cell? ⟨gb380, 0, none⟩ = some (.bool false) := zJ BK380.out 0; have hcz79_1 : w77.cell? ⟨gb380, 1, none⟩ = some (.bool false) := zJ BK380.out 1; have hcz79_2 : w77.cell? ⟨gb380, 2, none⟩ = some (.int .i64 0) := zJ BK380.out 2; have hfz79_0 := zI BK380.out 0; have hfz79_1 := zI BK380.out 1; have hfz79_2 := zI BK380.out 2))
            go_roundg k1
            case measure => have := HK1.out; omega
            case rel => exact ⟨(true), ((((rd_T36 t376 x9_1).f2) != 0)), (true), (true), (wrap64 (x9_1 + 1)), (by first | rfl | (simp; done) | (simp [*]; done)), (by first | rfl | (simp; done) | (simp [*]; done)), (by first | rfl | (simp; done) | (simp [*]; done)), (by first | rfl | (simp; done) | (simp [*]; done)), (by first | rfl | (simp; done) | (simp [*]; done)), H', ⟨by have := HK1.out; omega⟩, ⟨by (with_reducible repeat (first | apply Kd.R_alloc | apply Kd.R_drewN | apply Kd.R_drew)); exact Kd.R_mono (Kd.R_far (p := ⟨gb380, 2, none⟩) (Kd.R_far (p := ⟨gb380, 1, none⟩) (Kd.R_far (p := ⟨gb380, 0, none⟩) (Kd.R_mono HO_4.out (fun k_ hk => (⟨hk, hk.2⟩ : _ ∧ k_ ≠ gb380))) (fun _ hk => hk.2) (.bool false)) (fun _ hk => hk.2) (.bool true)) (fun _ hk => hk.2) (.int .i64 ((rd_T36 t376 x9_1).f2))) (fun _ hk => trivial)⟩, ⟨by (with_reducible repeat (first | refine zC ?_ _ | refine zG ?_ | refine zD ?_ _)); refine zL ?_ NB374_380.out _; (with_reducible repeat (first | refine zC ?_ _ | refine zG ?_ | refine zD ?_ _)); refine zL ?_ NB374_380.out _; (with_reducible repeat (first | refine zC ?_ _ | refine zG ?_ | refine zD ?_ _)); refine zL ?_ NB374_380.out _; (with_reducible repeat (first | refine zC ?_ _ | refine zG ?_ | refine zD ?_ _)); exact BK374.out⟩, ⟨by repeat (first | (with_reducible first | exact HB.out | apply zF | apply zA | apply zE | refine zH ?_ GE374.out | refine zH ?_ GE380.out) | exact HB.out)⟩⟩
           ·
            replace c75 := Bool.eq_false_iff.mpr c75
            subst c75
            have H1 : (if false = true then (zX.l0 k1 t376 true (((rd_T36 t376 x9_1).f2) != 0) true true (wrap64 (x9_1 + 1))) else (zX.l0 k1 t376 true (((rd_T36 t376 x9_1).f2) != 0) true false (wrap64 (x9_1 + 1)))) = some (r1, r2) := by rw [if_neg (show ¬ (false = true) by decide)] at H; exact H
            clear H
            have H := H1
            clear H1
            have H1 : (zX.l0 k1 t376 true (((rd_T36 t376 x9_1).f2) != 0) true false (wrap64 (x9_1 + 1))) = some (r1, r2) := by rw [if_neg (show ¬ (false = true) by decide)] at H; exact H
            clear H
            have H := H1
            clear H1
            have H' := zB.mk H
            clear H
            obtain ⟨Ao80, co80, eo80⟩ := Kd.R_slice HO_4.out
            subst eo80
            have p379 : 0 ≤ (x9_1 : Int) := of_decide_eq_true (by first | (with_reducible assumption) | assumption)
            have q379 : x9_1 < (t376.length : Int) := of_decide_eq_true (by first | (with_reducible assumption) | assumption)
            obtain ⟨ad379, e379, hx379_0, hx379_1, hx379_2⟩ := at_T36 (Kd.R_reads' HO_4.out).2.2 x9_1 p379 q379
            (try rw [← Nbq51.out] at hx379_0)
            (try rw [← Nbq72.out] at hx379_0)
            (try rw [← Nbq51.out] at hx379_1)
            (try rw [← Nbq72.out] at hx379_1)
            cases e379
            replace p379 := eq_true p379
            replace q379 := eq_true q379
            go_wp2_with (first | ((with_reducible refine zP (N := 10) rfl ?_); refine zO ?hg (N := 10) ?hd (cs := #[.bool false, .bool false, .int .i64 0]) (t := 36) ?hr ?_; (case hd => rfl); (case hg => rfl); (case hr => first | (go_simp; done) | (go_simp; rfl)); intro gb380 hg w81 hbox hb; have n0_ := zB.mk (Kd.R_below (Kd.R_elderB (by (with_reducible repeat (first | apply Kd.R_alloc | apply Kd.R_drewN | apply Kd.R_drew)); exact HO_4.out) gb380 (Nat.le_of_eq hg.symm)) hb); have n1_ := zB.mk (zN (g := gb374) (o := .cells #[.int .i64 a0_0, .int .i64 a0_1, .slice A0_2 l0_2.length c0_2] 28 (0, 0)) (by (with_reducible repeat (first | refine zC ?_ _ | refine zG ?_ | refine zD ?_ _)); exact BK374.out) hb); have n2_ := zB.mk (zK (by repeat (first | (with_reducible first | exact HB.out | apply zF | apply zA | apply zE | refine zH ?_ GE374.out) | exact HB.out)) hb); have n3_ := zB.mk (hbox); have n4_ := zB.mk ((by rw [hg]; exact (zM (by repeat (first | (with_reducible first | exact HB.out | apply zF | apply zA | apply zE | refine zH ?_ GE374.out) | exact HB.out))) : w.heap.size ≤ gb380)); have n5_ := n4_; have n6_ := zB.mk ((by rw [hg]; exact Nat.ne_of_lt (zQ (by (with_reducible repeat (first | refine zC ?_ _ | refine zG ?_ | refine zD ?_ _)); exact BK374.out)) : gb374 ≠ gb380)); have n7_ := zB.mk n6_.out.symm; clear HO_4; clear BK374; clear HB; have HO_4 := n0_; have BK374 := n1_; have HB := n2_; have BK380 := n3_; have GW380 := n4_; have GE380 := n5_; have NB374_380 := n6_; have NB380_374 := n7_; clear n0_ n1_ n2_ n3_ n4_ n5_ n6_ n7_; clear hb hbox hg; have hnb82 := NB380_374.out; have hnc82 := NB374_380.out; have hcz83_0 : w81.cell? ⟨gb380, 0, none⟩ = some (.bool false) := zJ BK380.out 0; have hcz83_1 : w81.cell? ⟨gb380, 1, none⟩ = some (.bool false) := zJ BK380.out 1; have hcz83_2 : w81.cell? ⟨gb380, 2, none⟩ = some (.int .i64 0) := zJ BK380.out 2; have hfz83_0 := zI BK380.out 0; have hfz83_1 := zI BK380.out 1; have hfz83_2 := zI BK380.out 2))
            go_roundg k1
            case measure => have := HK1.out; omega
            case rel => exact ⟨(true), ((((rd_T36 t376 x9_1).f2) != 0)), (true), (false), (wrap64 (x9_1 + 1)), (by first | rfl | (simp; done) | (simp [*]; done)), (by first | rfl | (simp; done) | (simp [*]; done)), (by first | rfl | (simp; done) | (simp [*]; done)), (by first | rfl | (simp; done) | (simp [*]; done)), (by first | rfl | (simp; done) | (simp [*]; done)), H', ⟨by have := HK1.out; omega⟩, ⟨by (with_reducible repeat (first | apply Kd.R_alloc | apply Kd.R_drewN | apply Kd.R_drew)); exact Kd.R_mono (Kd.R_far (p := ⟨gb380, 2, none⟩) (Kd.R_far (p := ⟨gb380, 1, none⟩) (Kd.R_far (p := ⟨gb380, 0, none⟩) (Kd.R_mono HO_4.out (fun k_ hk => (⟨hk, hk.2⟩ : _ ∧ k_ ≠ gb380))) (fun _ hk => hk.2) (.bool false)) (fun _ hk => hk.2) (.bool true)) (fun _ hk => hk.2) (.int .i64 ((rd_T36 t376 x9_1).f2))) (fun _ hk => trivial)⟩, ⟨by (with_reducible repeat (first | refine zC ?_ _ | refine zG ?_ | refine zD ?_ _)); refine zL ?_ NB374_380.out _; (with_reducible repeat (first | refine zC ?_ _ | refine zG ?_ | refine zD ?_ _)); refine zL ?_ NB374_380.out _; (with_reducible repeat (first | refine zC ?_ _ | refine zG ?_ | refine zD ?_ _)); refine zL ?_ NB374_380.out _; (with_reducible repeat (first | refine zC ?_ _ | refine zG ?_ | refine zD ?_ _)); exact BK374.out⟩, ⟨by repeat (first | (with_reducible first | exact HB.out | apply zF | apply zA | apply zE | refine zH ?_ GE374.out | refine zH ?_ GE380.out) | exact HB.out)⟩⟩
          ·
           replace c74 := Bool.eq_false_iff.mpr c74
           subst c74
           have H1 : (if false = true then (if x8_1 = true then (zX.l0 k1 t376 true (((rd_T36 t376 x9_1).f2) != 0) (!(true)) true (wrap64 (x9_1 + 1))) else (zX.l0 k1 t376 true (((rd_T36 t376 x9_1).f2) != 0) (!(true)) true (wrap64 (x9_1 + 1)))) else (if x8_1 = true then (zX.l0 k1 t376 true (((rd_T36 t376 x9_1).f2) != 0) false true (wrap64 (x9_1 + 1))) else (zX.l0 k1 t376 true (((rd_T36 t376 x9_1).f2) != 0) false false (wrap64 (x9_1 + 1))))) = some (r1, r2) := by rw [if_neg (show ¬ (false = true) by decide)] at H; exact H
           clear H
           have H := H1
           clear H1
           have H1 : (if x8_1 = true then (zX.l0 k1 t376 true (((rd_T36 t376 x9_1).f2) != 0) false true (wrap64 (x9_1 + 1))) else (zX.l0 k1 t376 true (((rd_T36 t376 x9_1).f2) != 0) false false (wrap64 (x9_1 + 1)))) = some (r1, r2) := by rw [if_neg (show ¬ (false = true) by decide)] at H; exact H
           clear H
           have H := H1
           clear H1
           by_cases c84 : x8_1 = true
           ·
            subst c84
            have H1 : (zX.l0 k1 t376 true (((rd_T36 t376 x9_1).f2) != 0) false true (wrap64 (x9_1 + 1))) = some (r1, r2) := by rw [if_pos rfl] at H; exact H
            clear H
            have H := H1
            clear H1
            have H' := zB.mk H
            clear H
            obtain ⟨Ao85, co85, eo85⟩ := Kd.R_slice HO_4.out
            subst eo85
            have p379 : 0 ≤ (x9_1 : Int) := of_decide_eq_true (by first | (with_reducible assumption) | assumption)
            have q379 : x9_1 < (t376.length : Int) := of_decide_eq_true (by first | (with_reducible assumption) | assumption)
            obtain ⟨ad379, e379, hx379_0, hx379_1, hx379_2⟩ := at_T36 (Kd.R_reads' HO_4.out).2.2 x9_1 p379 q379
            (try rw [← Nbq51.out] at hx379_0)
            (try rw [← Nbq72.out] at hx379_0)
            (try rw [← Nbq51.out] at hx379_1)
            (try rw [← Nbq72.out] at hx379_1)
            cases e379
            replace p379 := eq_true p379
            replace q379 := eq_true q379
            go_wp2_with (first | ((with_reducible refine zP (N := 10) rfl ?_); refine zO ?hg (N := 10) ?hd (cs := #[.bool false, .bool false, .int .i64 0]) (t := 36) ?hr ?_; (case hd => rfl); (case hg => rfl); (case hr => first | (go_simp; done) | (go_simp; rfl)); intro gb380 hg w86 hbox hb; have n0_ := zB.mk (Kd.R_below (Kd.R_elderB (by (with_reducible repeat (first | apply Kd.R_alloc | apply Kd.R_drewN | apply Kd.R_drew)); exact HO_4.out) gb380 (Nat.le_of_eq hg.symm)) hb); have n1_ := zB.mk (zN (g := gb374) (o := .cells #[.int .i64 a0_0, .int .i64 a0_1, .slice A0_2 l0_2.length c0_2] 28 (0, 0)) (by (with_reducible repeat (first | refine zC ?_ _ | refine zG ?_ | refine zD ?_ _)); exact BK374.out) hb); have n2_ := zB.mk (zK (by repeat (first | (with_reducible first | exact HB.out | apply zF | apply zA | apply zE | refine zH ?_ GE374.out) | exact HB.out)) hb); have n3_ := zB.mk (hbox); have n4_ := zB.mk ((by rw [hg]; exact (zM (by repeat (first | (with_reducible first | exact HB.out | apply zF | apply zA | apply zE | refine zH ?_ GE374.out) | exact HB.out))) : w.heap.size ≤ gb380)); have n5_ := n4_; have n6_ := zB.mk ((by rw [hg]; exact Nat.ne_of_lt (zQ (by (with_reducible repeat (first | refine zC ?_ _ | refine zG ?_ | refine zD ?_ _)); exact BK374.out)) : gb374 ≠ gb380)); have n7_ := zB.mk n6_.out.symm; clear HO_4; clear BK374; clear HB; have HO_4 := n0_; have BK374 := n1_; have HB := n2_; have BK380 := n3_; have GW380 := n4_; have GE380 := n5_; have NB374_380 := n6_; have NB380_374 := n7_; clear n0_ n1_ n2_ n3_ n4_ n5_ n6_ n7_; clear hb hbox hg; have hnb87 := NB380_374.out; have hnc87 := NB374_380.out; have hcz88_0 : w86.cell? ⟨gb380, 0, none⟩ = some (.bool false) := zJ BK380.out 0; have hcz88_1 : w86.cell? ⟨gb380, 1, none⟩ = some (.bool false) := zJ BK380.out 1; have hcz88_2 : w86.cell? ⟨gb380, 2, none⟩ = some (.int .i64 0) := zJ BK380.out 2; have hfz88_0 := zI BK380.out 0; have hfz88_1 := zI BK380.out 1; have hfz88_2 := zI BK380.out 2))
            go_roundg k1
            case measure => have := HK1.out; omega
            case rel => exact ⟨(true), ((((rd_T36 t376 x9_1).f2) != 0)), (false), (true), (wrap64 (x9_1 + 1)), (by first | rfl | (simp; done) | (simp [*]; done)), (by first | rfl | (simp; done) | (simp [*]; done)), (by first | rfl | (simp; done) | (simp [*]; done)), (by first | rfl | (simp; done) | (simp [*]; done)), (by first | rfl | (simp; done) | (simp [*]; done)), H', ⟨by have := HK1.out; omega⟩, ⟨by (with_reducible repeat (first | apply Kd.R_alloc | apply Kd.R_drewN | apply Kd.R_drew)); exact Kd.R_mono (Kd.R_far (p := ⟨gb380, 2, none⟩) (Kd.R_far (p := ⟨gb380, 1, none⟩) (Kd.R_far (p := ⟨gb380, 0, none⟩) (Kd.R_mono HO_4.out (fun k_ hk => (⟨hk, hk.2⟩ : _ ∧ k_ ≠ gb380))) (fun _ hk => hk.2) (.bool false)) (fun _ hk => hk.2) (.bool true)) (fun _ hk => hk.2) (.int .i64 ((rd_T36 t376 x9_1).f2))) (fun _ hk => trivial)⟩, ⟨by (with_reducible repeat (first | refine zC ?_ _ | refine zG ?_ | refine zD ?_ _)); refine zL ?_ NB374_380.out _; (with_reducible repeat (first | refine zC ?_ _ | refine zG ?_ | refine zD ?_ _)); refine zL ?_ NB374_380.out _; (with_reducible repeat (first | refine zC ?_ _ | refine zG ?_ | refine zD ?_ _)); refine zL ?_ NB374_380.out _; (with_reducible repeat (first | refine zC ?_ _ | refine zG ?_ | refine zD ?_ _)); exact BK374.out⟩, ⟨by repeat (first | (with_reducible first | exact HB.out | apply zF | apply zA | apply zE | refine zH ?_ GE374.out | refine zH ?_ GE380.out) | exact HB.out)⟩⟩
           ·
            replace c84 := Bool.eq_false_iff.mpr c84
            subst c84
            have H1 : (zX.l0 k1 t376 true (((rd_T36 t376 x9_1).f2) != 0) false false (wrap64 (x9_1 + 1))) = some (r1, r2) := by rw [if_neg (show ¬ (false = true) by decide)] at H; exact H
            clear H
            have H := H1
            clear H1
            have H' := zB.mk H
            clear H
            obtain ⟨Ao89, co89, eo89⟩ := Kd.R_slice HO_4.out
            subst eo89
            have p379 : 0 ≤ (x9_1 : Int) := of_decide_eq_true (by first | (with_reducible assumption) | assumption)
            have q379 : x9_1 < (t376.length : Int) := of_decide_eq_true (by first | (with_reducible assumption) | assumption)
            obtain ⟨ad379, e379, hx379_0, hx379_1, hx379_2⟩ := at_T36 (Kd.R_reads' HO_4.out).2.2 x9_1 p379 q379
            (try rw [← Nbq51.out] at hx379_0)
            (try rw [← Nbq72.out] at hx379_0)
            (try rw [← Nbq51.out] at hx379_1)
            (try rw [← Nbq72.out] at hx379_1)
            cases e379
            replace p379 := eq_true p379
            replace q379 := eq_true q379
            go_wp2_with (first | ((with_reducible refine zP (N := 10) rfl ?_); refine zO ?hg (N := 10) ?hd (cs := #[.bool false, .bool false, .int .i64 0]) (t := 36) ?hr ?_; (case hd => rfl); (case hg => rfl); (case hr => first | (go_simp; done) | (go_simp; rfl)); intro gb380 hg w90 hbox hb; have n0_ := zB.mk (Kd.R_below (Kd.R_elderB (by (with_reducible repeat (first | apply Kd.R_alloc | apply Kd.R_drewN | apply Kd.R_drew)); exact HO_4.out) gb380 (Nat.le_of_eq hg.symm)) hb); have n1_ := zB.mk (zN (g := gb374) (o := .cells #[.int .i64 a0_0, .int .i64 a0_1, .slice A0_2 l0_2.length c0_2] 28 (0, 0)) (by (with_reducible repeat (first | refine zC ?_ _ | refine zG ?_ | refine zD ?_ _)); exact BK374.out) hb); have n2_ := zB.mk (zK (by repeat (first | (with_reducible first | exact HB.out | apply zF | apply zA | apply zE | refine zH ?_ GE374.out) | exact HB.out)) hb); have n3_ := zB.mk (hbox); have n4_ := zB.mk ((by rw [hg]; exact (zM (by repeat (first | (with_reducible first | exact HB.out | apply zF | apply zA | apply zE | refine zH ?_ GE374.out) | exact HB.out))) : w.heap.size ≤ gb380)); have n5_ := n4_; have n6_ := zB.mk ((by rw [hg]; exact Nat.ne_of_lt (zQ (by (with_reducible repeat (first | refine zC ?_ _ | refine zG ?_ | refine zD ?_ _)); exact BK374.out)) : gb374 ≠ gb380)); have n7_ := zB.mk n6_.out.symm; clear HO_4; clear BK374; clear HB; have HO_4 := n0_; have BK374 := n1_; have HB := n2_; have BK380 := n3_; have GW380 := n4_; have GE380 := n5_; have NB374_380 := n6_; have NB380_374 := n7_; clear n0_ n1_ n2_ n3_ n4_ n5_ n6_ n7_; clear hb hbox hg; have hnb91 := NB380_374.out; have hnc91 := NB374_380.out; have hcz92_0 : w90.cell? ⟨gb380, 0, none⟩ = some (.bool false) := zJ BK380.out 0; have hcz92_1 : w90.cell? ⟨gb380, 1, none⟩ = some (.bool false) := zJ BK380.out 1; have hcz92_2 : w90.cell? ⟨gb380, 2, none⟩ = some (.int .i64 0) := zJ BK380.out 2; have hfz92_0 := zI BK380.out 0; have hfz92_1 := zI BK380.out 1; have hfz92_2 := zI BK380.out 2))
            go_roundg k1
            case measure => have := HK1.out; omega
            case rel => exact ⟨(true), ((((rd_T36 t376 x9_1).f2) != 0)), (false), (false), (wrap64 (x9_1 + 1)), (by first | rfl | (simp; done) | (simp [*]; done)), (by first | rfl | (simp; done) | (simp [*]; done)), (by first | rfl | (simp; done) | (simp [*]; done)), (by first | rfl | (simp; done) | (simp [*]; done)), (by first | rfl | (simp; done) | (simp [*]; done)), H', ⟨by have := HK1.out; omega⟩, ⟨by (with_reducible repeat (first | apply Kd.R_alloc | apply Kd.R_drewN | apply Kd.R_drew)); exact Kd.R_mono (Kd.R_far (p := ⟨gb380, 2, none⟩) (Kd.R_far (p := ⟨gb380, 1, none⟩) (Kd.R_far (p := ⟨gb380, 0, none⟩) (Kd.R_mono HO_4.out (fun k_ hk => (⟨hk, hk.2⟩ : _ ∧ k_ ≠ gb380))) (fun _ hk => hk.2) (.bool false)) (fun _ hk => hk.2) (.bool true)) (fun _ hk => hk.2) (.int .i64 ((rd_T36 t376 x9_1).f2))) (fun _ hk => trivial)⟩, ⟨by (with_reducible repeat (first | refine zC ?_ _ | refine zG ?_ | refine zD ?_ _)); refine zL ?_ NB374_380.out _; (with_reducible repeat (first | refine zC ?_ _ | refine zG ?_ | refine zD ?_ _)); refine zL ?_ NB374_380.out _; (with_reducible repeat (first | refine zC ?_ _ | refine zG ?_ | refine zD ?_ _)); refine zL ?_ NB374_380.out _; (with_reducible repeat (first | refine zC ?_ _ | refine zG ?_ | refine zD ?_ _)); exact BK374.out⟩, ⟨by repeat (first | (with_reducible first | exact HB.out | apply zF | apply zA | apply zE | refine zH ?_ GE374.out | refine zH ?_ GE380.out) | exact HB.out)⟩⟩
         ·
          replace c73 := Bool.eq_false_iff.mpr c73
          subst c73
          have H1 : (if x7_1 = true then (if x8_1 = true then (zX.l0 k1 t376 true false true true (wrap64 (x9_1 + 1))) else (if false = true then (zX.l0 k1 t376 true false true false (wrap64 (x9_1 + 1))) else (zX.l0 k1 t376 true false true false (wrap64 (x9_1 + 1))))) else (if false = true then (if x8_1 = true then (zX.l0 k1 t376 true false (!(false)) true (wrap64 (x9_1 + 1))) else (zX.l0 k1 t376 true false (!(false)) false (wrap64 (x9_1 + 1)))) else (if x8_1 = true then (zX.l0 k1 t376 true false false true (wrap64 (x9_1 + 1))) else (zX.l0 k1 t376 true false false false (wrap64 (x9_1 + 1)))))) = some (r1, r2) := by rw [if_neg (show ¬ (false = true) by decide)] at H; exact H
          clear H
          have H := H1
          clear H1
          by_cases c93 : x7_1 = true
          ·
           subst c93
           have H1 : (if x8_1 = true then (zX.l0 k1 t376 true false true true (wrap64 (x9_1 + 1))) else (if false = true then (zX.l0 k1 t376 true false true false (wrap64 (x9_1 + 1))) else (zX.l0 k1 t376 true false true false (wrap64 (x9_1 + 1))))) = some (r1, r2) := by rw [if_pos rfl] at H; exact H
           clear H
           have H := H1
           clear H1
           by_cases c94 : x8_1 = true
           ·
            subst c94
            have H1 : (zX.l0 k1 t376 true false true true (wrap64 (x9_1 + 1))) = some (r1, r2) := by rw [if_pos rfl] at H; exact H
            clear H
            have H := H1
            clear H1
            have H' := zB.mk H
            clear H
            obtain ⟨Ao95, co95, eo95⟩ := Kd.R_slice HO_4.out
            subst eo95
            have p379 : 0 ≤ (x9_1 : Int) := of_decide_eq_true (by first | (with_reducible assumption) | assumption)
            have q379 : x9_1 < (t376.length : Int) := of_decide_eq_true (by first | (with_reducible assumption) | assumption)
            obtain ⟨ad379, e379, hx379_0, hx379_1, hx379_2⟩ := at_T36 (Kd.R_reads' HO_4.out).2.2 x9_1 p379 q379
            (try rw [← Nbq51.out] at hx379_0)
            (try rw [← Nbq72.out] at hx379_0)
            (try rw [← Nbq51.out] at hx379_1)
            (try rw [← Nbq72.out] at hx379_1)
            cases e379
            replace p379 := eq_true p379
            replace q379 := eq_true q379
            go_wp2_with (first | ((with_reducible refine zP (N := 10) rfl ?_); refine zO ?hg (N := 10) ?hd (cs := #[.bool false, .bool false, .int .i64 0]) (t := 36) ?hr ?_; (case hd => rfl); (case hg => rfl); (case hr => first | (go_simp; done) | (go_simp; rfl)); intro gb380 hg w96 hbox hb; have n0_ := zB.mk (Kd.R_below (Kd.R_elderB (by (with_reducible repeat (first | apply Kd.R_alloc | apply Kd.R_drewN | apply Kd.R_drew)); exact HO_4.out) gb380 (Nat.le_of_eq hg.symm)) hb); have n1_ := zB.mk (zN (g := gb374) (o := .cells #[.int .i64 a0_0, .int .i64 a0_1, .slice A0_2 l0_2.length c0_2] 28 (0, 0)) (by (with_reducible repeat (first | refine zC ?_ _ | refine zG ?_ | refine zD ?_ _)); exact BK374.out) hb); have n2_ := zB.mk (zK (by repeat (first | (with_reducible first | exact HB.out | apply zF | apply zA | apply zE | refine zH ?_ GE374.out) | exact HB.out)) hb); have n3_ := zB.mk (hbox); have n4_ := zB.mk ((by rw [hg]; exact (zM (by repeat (first | (with_reducible first | exact HB.out | apply zF | apply zA | apply zE | refine zH ?_ GE374.out) | exact HB.out))) : w.heap.size ≤ gb380)); have n5_ := n4_; have n6_ := zB.mk ((by rw [hg]; exact Nat.ne_of_lt (zQ (by (with_reducible repeat (first | refine zC ?_ _ | refine zG ?_ | refine zD ?_ _)); exact BK374.out)) : gb374 ≠ gb380)); have n7_ := zB.mk n6_.out.symm; clear HO_4; clear BK374; clear HB; have HO_4 := n0_; have BK374 := n1_; have HB := n2_; have BK380 := n3_; have GW380 := n4_; have GE380 := n5_; have NB374_380 := n6_; have NB380_374 := n7_; clear n0_ n1_ n2_ n3_ n4_ n5_ n6_ n7_; clear hb hbox hg; have hnb97 := NB380_374.out; have hnc97 := NB374_380.out; have hcz98_0 : w96.cell? ⟨gb380, 0, none⟩ = some (.bool false) := zJ BK380.out 0; have hcz98_1 : w96.cell? ⟨gb380, 1, none⟩ = some (.bool false) := zJ BK380.out 1; have hcz98_2 : w96.cell? ⟨gb380, 2, none⟩ = some (.int .i64 0) := zJ BK380.out 2; have hfz98_0 := zI BK380.out 0; have hfz98_1 := zI BK380.out 1; have hfz98_2 := zI BK380.out 2))
            go_roundg k1
            case measure => have := HK1.out; omega
            case rel => exact ⟨(true), (false), (true), (true), (wrap64 (x9_1 + 1)), (by first | rfl | (simp; done) | (simp [*]; done)), (by first | rfl | (simp; done) | (simp [*]; done)), (by first | rfl | (simp; done) | (simp [*]; done)), (by first | rfl | (simp; done) | (simp [*]; done)), (by first | rfl | (simp; done) | (simp [*]; done)), H', ⟨by have := HK1.out; omega⟩, ⟨by (with_reducible repeat (first | apply Kd.R_alloc | apply Kd.R_drewN | apply Kd.R_drew)); exact Kd.R_mono (Kd.R_far (p := ⟨gb380, 2, none⟩) (Kd.R_far (p := ⟨gb380, 1, none⟩) (Kd.R_far (p := ⟨gb380, 0, none⟩) (Kd.R_mono HO_4.out (fun k_ hk => (⟨hk, hk.2⟩ : _ ∧ k_ ≠ gb380))) (fun _ hk => hk.2) (.bool false)) (fun _ hk => hk.2) (.bool false)) (fun _ hk => hk.2) (.int .i64 ((rd_T36 t376 x9_1).f2))) (fun _ hk => trivial)⟩, ⟨by (with_reducible repeat (first | refine zC ?_ _ | refine zG ?_ | refine zD ?_ _)); refine zL ?_ NB374_380.out _; (with_reducible repeat (first | refine zC ?_ _ | refine zG ?_ | refine zD ?_ _)); refine zL ?_ NB374_380.out _; (with_reducible repeat (first | refine zC ?_ _ | refine zG ?_ | refine zD ?_ _)); refine zL ?_ NB374_380.out _; (with_reducible repeat (first | refine zC ?_ _ | refine zG ?_ | refine zD ?_ _)); exact BK374.out⟩, ⟨by repeat (first | (with_reducible first | exact HB.out | apply zF | apply zA | apply zE | refine zH ?_ GE374.out | refine zH ?_ GE380.out) | exact HB.out)⟩⟩
           ·
            replace c94 := Bool.eq_false_iff.mpr c94
            subst c94
            have H1 : (if false = true then (zX.l0 k1 t376 true false true false (wrap64 (x9_1 + 1))) else (zX.l0 k1 t376 true false true false (wrap64 (x9_1 + 1)))) = some (r1, r2) := by rw [if_neg (show ¬ (false = true) by decide)] at H; exact H
            clear H
            have H := H1
            clear H1
            have H1 : (zX.l0 k1 t376 true false true false (wrap64 (x9_1 + 1))) = some (r1, r2) := by rw [if_neg (show ¬ (false = true) by decide)] at H; exact H
            clear H
            have H := H1
            clear H1
            have H' := zB.mk H
            clear H
            obtain ⟨Ao99, co99, eo99⟩ := Kd.R_slice HO_4.out
            subst eo99
            have p379 : 0 ≤ (x9_1 : Int) := of_decide_eq_true (by first | (with_reducible assumption) | assumption)
            have q379 : x9_1 < (t376.length : Int) := of_decide_eq_true (by first | (with_reducible assumption) | assumption)
            obtain ⟨ad379, e379, hx379_0, hx379_1, hx379_2⟩ := at_T36 (Kd.R_reads' HO_4.out).2.2 x9_1 p379 q379
            (try rw [← Nbq51.out] at hx379_0)
            (try rw [← Nbq72.out] at hx379_0)
            (try rw [← Nbq51.out] at hx379_1)
            (try rw [← Nbq72.out] at hx379_1)
            cases e379
            replace p379 := eq_true p379
            replace q379 := eq_true q379
            go_wp2_with (first | ((with_reducible refine zP (N := 10) rfl ?_); refine zO ?hg (N := 10) ?hd (cs := #[.bool false, .bool false, .int .i64 0]) (t := 36) ?hr ?_; (case hd => rfl); (case hg => rfl); (case hr => first | (go_simp; done) | (go_simp; rfl)); intro gb380 hg w100 hbox hb; have n0_ := zB.mk (Kd.R_below (Kd.R_elderB (by (with_reducible repeat (first | apply Kd.R_alloc | apply Kd.R_drewN | apply Kd.R_drew)); exact HO_4.out) gb380 (Nat.le_of_eq hg.symm)) hb); have n1_ := zB.mk (zN (g := gb374) (o := .cells #[.int .i64 a0_0, .int .i64 a0_1, .slice A0_2 l0_2.length c0_2] 28 (0, 0)) (by (with_reducible repeat (first | refine zC ?_ _ | refine zG ?_ | refine zD ?_ _)); exact BK374.out) hb); have n2_ := zB.mk (zK (by repeat (first | (with_reducible first | exact HB.out | apply zF | apply zA | apply zE | refine zH ?_ GE374.out) | exact HB.out)) hb); have n3_ := zB.mk (hbox); have n4_ := zB.mk ((by rw [hg]; exact (zM (by repeat (first | (with_reducible first | exact HB.out | apply zF | apply zA | apply zE | refine zH ?_ GE374.out) | exact HB.out))) : w.heap.size ≤ gb380)); have n5_ := n4_; have n6_ := zB.mk ((by rw [hg]; exact Nat.ne_of_lt (zQ (by (with_reducible repeat (first | refine zC ?_ _ | refine zG ?_ | refine zD ?_ _)); exact BK374.out)) : gb374 ≠ gb380)); have n7_ := zB.mk n6_.out.symm; clear HO_4; clear BK374; clear HB; have HO_4 := n0_; have BK374 := n1_; have HB := n2_; have BK380 := n3_; have GW380 := n4_; have GE380 := n5_; have NB374_380 := n6_; have NB380_374 := n7_; clear n0_ n1_ n2_ n3_ n4_ n5_ n6_ n7_; clear hb hbox hg; have hnb101 := NB380_374.out; have hnc101 := NB374_380.out; have hcz102_0 : w100.cell? ⟨gb380, 0, none⟩ = some (.bool false) := zJ BK380.out 0; have hcz102_1 : w100.cell? ⟨gb380, 1, none⟩ = some (.bool false) := zJ BK380.out 1; have hcz102_2 : w100.cell? ⟨gb380, 2, none⟩ = some (.int .i64 0) := zJ BK380.out 2; have hfz102_0 := zI BK380.out 0; have hfz102_1 := zI BK380.out 1; have hfz102_2 := zI BK380.out 2))
            go_roundg k1
            case measure => have := HK1.out; omega
            case rel => exact ⟨(true), (false), (true), (false), (wrap64 (x9_1 + 1)), (by first | rfl | (simp; done) | (simp [*]; done)), (by first | rfl | (simp; done) | (simp [*]; done)), (by first | rfl | (simp; done) | (simp [*]; done)), (by first | rfl | (simp; done) | (simp [*]; done)), (by first | rfl | (simp; done) | (simp [*]; done)), H', ⟨by have := HK1.out; omega⟩, ⟨by (with_reducible repeat (first | apply Kd.R_alloc | apply Kd.R_drewN | apply Kd.R_drew)); exact Kd.R_mono (Kd.R_far (p := ⟨gb380, 2, none⟩) (Kd.R_far (p := ⟨gb380, 1, none⟩) (Kd.R_far (p := ⟨gb380, 0, none⟩) (Kd.R_mono HO_4.out (fun k_ hk => (⟨hk, hk.2⟩ : _ ∧ k_ ≠ gb380))) (fun _ hk => hk.2) (.bool false)) (fun _ hk => hk.2) (.bool false)) (fun _ hk => hk.2) (.int .i64 ((rd_T36 t376 x9_1).f2))) (fun _ hk => trivial)⟩, ⟨by (with_reducible repeat (first | refine zC ?_ _ | refine zG ?_ | refine zD ?_ _)); refine zL ?_ NB374_380.out _; (with_reducible repeat (first | refine zC ?_ _ | refine zG ?_ | refine zD ?_ _)); refine zL ?_ NB374_380.out _; (with_reducible repeat (first | refine zC ?_ _ | refine zG ?_ | refine zD ?_ _)); refine zL ?_ NB374_380.out _; (with_reducible repeat (first | refine zC ?_ _ | refine zG ?_ | refine zD ?_ _)); exact BK374.out⟩, ⟨by repeat (first | (with_reducible first | exact HB.out | apply zF | apply zA | apply zE | refine zH ?_ GE374.out | refine zH ?_ GE380.out) | exact HB.out)⟩⟩
          ·
           replace c93 := Bool.eq_false_iff.mpr c93
           subst c93
           have H1 : (if false = true then (if x8_1 = true then (zX.l0 k1 t376 true false (!(false)) true (wrap64 (x9_1 + 1))) else (zX.l0 k1 t376 true false (!(false)) false (wrap64 (x9_1 + 1)))) else (if x8_1 = true then (zX.l0 k1 t376 true false false true (wrap64 (x9_1 + 1))) else (zX.l0 k1 t376 true false false false (wrap64 (x9_1 + 1))))) = some (r1, r2) := by rw [if_neg (show ¬ (false = true) by decide)] at H; exact H
           clear H
           have H := H1
           clear H1
           have H1 : (if x8_1 = true then (zX.l0 k1 t376 true false false true (wrap64 (x9_1 + 1))) else (zX.l0 k1 t376 true false false false (wrap64 (x9_1 + 1)))) = some (r1, r2) := by rw [if_neg (show ¬ (false = true) by decide)] at H; exact H
           clear H
           have H := H1
           clear H1
           by_cases c103 : x8_1 = true
           ·
            subst c103
            have H1 : (zX.l0 k1 t376 true false false true (wrap64 (x9_1 + 1))) = some (r1, r2) := by rw [if_pos rfl] at H; exact H
            clear H
            have H := H1
            clear H1
            have H' := zB.mk H
            clear H
            obtain ⟨Ao104, co104, eo104⟩ := Kd.R_slice HO_4.out
            subst eo104
            have p379 : 0 ≤ (x9_1 : Int) := of_decide_eq_true (by first | (with_reducible assumption) | assumption)
            have q379 : x9_1 < (t376.length : Int) := of_decide_eq_true (by first | (with_reducible assumption) | assumption)
            obtain ⟨ad379, e379, hx379_0, hx379_1, hx379_2⟩ := at_T36 (Kd.R_reads' HO_4.out).2.2 x9_1 p379 q379
            (try rw [← Nbq51.out] at hx379_0)
            (try rw [← Nbq72.out] at hx379_0)
            (try rw [← Nbq51.out] at hx379_1)
            (try rw [← Nbq72.out] at hx379_1)
            cases e379
            replace p379 := eq_true p379
            replace q379 := eq_true q379
            go_wp2_with (first | ((with_reducible refine zP (N := 10) rfl ?_); refine zO ?hg (N := 10) ?hd (cs := #[.bool false, .bool false, .int .i64 0]) (t := 36) ?hr ?_; (case hd => rfl); (case hg => rfl); (case hr => first | (go_simp; done) | (go_simp; rfl)); intro gb380 hg w105 hbox hb; have n0_ := zB.mk (Kd.R_below (Kd.R_elderB (by (with_reducible repeat (first | apply Kd.R_alloc | apply Kd.R_drewN | apply Kd.R_drew)); exact HO_4.out) gb380 (Nat.le_of_eq hg.symm)) hb); have n1_ := zB.mk (zN (g := gb374) (o := .cells #[.int .i64 a0_0, .int .i64 a0_1, .slice A0_2 l0_2.length c0_2] 28 (0, 0)) (by (with_reducible repeat (first | refine zC ?_ _ | refine zG ?_ | refine zD ?_ _)); exact BK374.out) hb); have n2_ := zB.mk (zK (by repeat (first | (with_reducible first | exact HB.out | apply zF | apply zA | apply zE | refine zH ?_ GE374.out) | exact HB.out)) hb); have n3_ := zB.mk (hbox); have n4_ := zB.mk ((by rw [hg]; exact (zM (by repeat (first | (with_reducible first | exact HB.out | apply zF | apply zA | apply zE | refine zH ?_ GE374.out) | exact HB.out))) : w.heap.size ≤ gb380)); have n5_ := n4_; have n6_ := zB.mk ((by rw [hg]; exact Nat.ne_of_lt (zQ (by (with_reducible repeat (first | refine zC ?_ _ | refine zG ?_ | refine zD ?_ _)); exact BK374.out)) : gb374 ≠ gb380)); have n7_ := zB.mk n6_.out.symm; clear HO_4; clear BK374; clear HB; have HO_4 := n0_; have BK374 := n1_; have HB := n2_; have BK380 := n3_; have GW380 := n4_; have GE380 := n5_; have NB374_380 := n6_; have NB380_374 := n7_; clear n0_ n1_ n2_ n3_ n4_ n5_ n6_ n7_; clear hb hbox hg; have hnb106 := NB380_374.out; have hnc106 := NB374_380.out; have hcz107_0 : w105.cell? ⟨gb380, 0, none⟩ = some (.bool false) := zJ BK380.out 0; have hcz107_1 : w105.cell? ⟨gb380, 1, none⟩ = some (.bool false) := zJ BK380.out 1; have hcz107_2 : w105.cell? ⟨gb380, 2, none⟩ = some (.int .i64 0) := zJ BK380.out 2; have hfz107_0 := zI BK380.out 0; have hfz107_1 := zI BK380.out 1; have hfz107_2 := zI BK380.out 2))
            go_roundg k1
            case measure => have := HK1.out; omega
            case rel => exact ⟨(true), (false), (false), (true), (wrap64 (x9_1 + 1)), (by first | rfl | (simp; done) | (simp [*]; done)), (by first | rfl | (simp; done) | (simp [*]; done)), (by first | rfl | (simp; done) | (simp [*]; done)), (by first | rfl | (simp; done) | (simp [*]; done)), (by first | rfl | (simp; done) | (simp [*]; done)), H', ⟨by have := HK1.out; omega⟩, ⟨by (with_reducible repeat (first | apply Kd.R_alloc | apply Kd.R_drewN | apply Kd.R_drew)); exact Kd.R_mono (Kd.R_far (p := ⟨gb380, 2, none⟩) (Kd.R_far (p := ⟨gb380, 1, none⟩) (Kd.R_far (p := ⟨gb380, 0, none⟩) (Kd.R_mono HO_4.out (fun k_ hk => (⟨hk, hk.2⟩ : _ ∧ k_ ≠ gb380))) (fun _ hk => hk.2) (.bool false)) (fun _ hk => hk.2) (.bool false)) (fun _ hk => hk.2) (.int .i64 ((rd_T36 t376 x9_1).f2))) (fun _ hk => trivial)⟩, ⟨by (with_reducible repeat (first | refine zC ?_ _ | refine zG ?_ | refine zD ?_ _)); refine zL ?_ NB374_380.out _; (with_reducible repeat (first | refine zC ?_ _ | refine zG ?_ | refine zD ?_ _)); refine zL ?_ NB374_380.out _; (with_reducible repeat (first | refine zC ?_ _ | refine zG ?_ | refine zD ?_ _)); refine zL ?_ NB374_380.out _; (with_reducible repeat (first | refine zC ?_ _ | refine zG ?_ | refine zD ?_ _)); exact BK374.out⟩, ⟨by repeat (first | (with_reducible first | exact HB.out | apply zF | apply zA | apply zE | refine zH ?_ GE374.out | refine zH ?_ GE380.out) | exact HB.out)⟩⟩
           ·
            replace c103 := Bool.eq_false_iff.mpr c103
            subst c103
            have H1 : (zX.l0 k1 t376 true false false false (wrap64 (x9_1 + 1))) = some (r1, r2) := by rw [if_neg (show ¬ (false = true) by decide)] at H; exact H
            clear H
            have H := H1
            clear H1
            have H' := zB.mk H
            clear H
            obtain ⟨Ao108, co108, eo108⟩ := Kd.R_slice HO_4.out
            subst eo108
            have p379 : 0 ≤ (x9_1 : Int) := of_decide_eq_true (by first | (with_reducible assumption) | assumption)
            have q379 : x9_1 < (t376.length : Int) := of_decide_eq_true (by first | (with_reducible assumption) | assumption)
            obtain ⟨ad379, e379, hx379_0, hx379_1, hx379_2⟩ := at_T36 (Kd.R_reads' HO_4.out).2.2 x9_1 p379 q379
            (try rw [← Nbq51.out] at hx379_0)
            (try rw [← Nbq72.out] at hx379_0)
            (try rw [← Nbq51.out] at hx379_1)
            (try rw [← Nbq72.out] at hx379_1)
            cases e379
            replace p379 := eq_true p379
            replace q379 := eq_true q379
            go_wp2_with (first | ((with_reducible refine zP (N := 10) rfl ?_); refine zO ?hg (N := 10) ?hd (cs := #[.bool false, .bool false, .int .i64 0]) (t := 36) ?hr ?_; (case hd => rfl); (case hg => rfl); (case hr => first | (go_simp; done) | (go_simp; rfl)); intro gb380 hg w109 hbox hb; have n0_ := zB.mk (Kd.R_below (Kd.R_elderB (by (with_reducible repeat (first | apply Kd.R_alloc | apply Kd.R_drewN | apply Kd.R_drew)); exact HO_4.out) gb380 (Nat.le_of_eq hg.symm)) hb); have n1_ := zB.mk (zN (g := gb374) (o := .cells #[.int .i64 a0_0, .int .i64 a0_1, .slice A0_2 l0_2.length c0_2] 28 (0, 0)) (by (with_reducible repeat (first | refine zC ?_ _ | refine zG ?_ | refine zD ?_ _)); exact BK374.out) hb); have n2_ := zB.mk (zK (by repeat (first | (with_reducible first | exact HB.out | apply zF | apply zA | apply zE | refine zH ?_ GE374.out) | exact HB.out)) hb); have n3_ := zB.mk (hbox); have n4_ := zB.mk ((by rw [hg]; exact (zM (by repeat (first | (with_reducible first | exact HB.out | apply zF | apply zA | apply zE | refine zH ?_ GE374.out) | exact HB.out))) : w.heap.size ≤ gb380)); have n5_ := n4_; have n6_ := zB.mk ((by rw [hg]; exact Nat.ne_of_lt (zQ (by (with_reducible repeat (first | refine zC ?_ _ | refine zG ?_ | refine zD ?_ _)); exact BK374.out)) : gb374 ≠ gb380)); have n7_ := zB.mk n6_.out.symm; clear HO_4; clear BK374; clear HB; have HO_4 := n0_; have BK374 := n1_; have HB := n2_; have BK380 := n3_; have GW380 := n4_; have GE380 := n5_; have NB374_380 := n6_; have NB380_374 := n7_; clear n0_ n1_ n2_ n3_ n4_ n5_ n6_ n7_; clear hb hbox hg; have hnb110 := NB380_374.out; have hnc110 := NB374_380.out; have hcz111_0 : w109.cell? ⟨gb380, 0, none⟩ = some (.bool false) := zJ BK380.out 0; have hcz111_1 : w109.cell? ⟨gb380, 1, none⟩ = some (.bool false) := zJ BK380.out 1; have hcz111_2 : w109.cell? ⟨gb380, 2, none⟩ = some (.int .i64 0) := zJ BK380.out 2; have hfz111_0 := zI BK380.out 0; have hfz111_1 := zI BK380.out 1; have hfz111_2 := zI BK380.out 2))
            go_roundg k1
            case measure => have := HK1.out; omega
            case rel => exact ⟨(true), (false), (false), (false), (wrap64 (x9_1 + 1)), (by first | rfl | (simp; done) | (simp [*]; done)), (by first | rfl | (simp; done) | (simp [*]; done)), (by first | rfl | (simp; done) | (simp [*]; done)), (by first | rfl | (simp; done) | (simp [*]; done)), (by first | rfl | (simp; done) | (simp [*]; done)), H', ⟨by have := HK1.out; omega⟩, ⟨by (with_reducible repeat (first | apply Kd.R_alloc | apply Kd.R_drewN | apply Kd.R_drew)); exact Kd.R_mono (Kd.R_far (p := ⟨gb380, 2, none⟩) (Kd.R_far (p := ⟨gb380, 1, none⟩) (Kd.R_far (p := ⟨gb380, 0, none⟩) (Kd.R_mono HO_4.out (fun k_ hk => (⟨hk, hk.2⟩ : _ ∧ k_ ≠ gb380))) (fun _ hk => hk.2) (.bool false)) (fun _ hk => hk.2) (.bool false)) (fun _ hk => hk.2) (.int .i64 ((rd_T36 t376 x9_1).f2))) (fun _ hk => trivial)⟩, ⟨by (with_reducible repeat (first | refine zC ?_ _ | refine zG ?_ | refine zD ?_ _)); refine zL ?_ NB374_380.out _; (with_reducible repeat (first | refine zC ?_ _ | refine zG ?_ | refine zD ?_ _)); refine zL ?_ NB374_380.out _; (with_reducible repeat (first | refine zC ?_ _ | refine zG ?_ | refine zD ?_ _)); refine zL ?_ NB374_380.out _; (with_reducible repeat (first | refine zC ?_ _ | refine zG ?_ | refine zD ?_ _)); exact BK374.out⟩, ⟨by repeat (first | (with_reducible first | exact HB.out | apply zF | apply zA | apply zE | refine zH ?_ GE374.out | refine zH ?_ GE380.out) | exact HB.out)⟩⟩
      ·
       replace c13 := Bool.eq_false_iff.mpr c13
       subst c13
       have H1 : (if ((rd_T36 t376 x9_1).f0 = true) then (if x6_1 = true then (if x7_1 = true then (if x8_1 = true then (zX.l0 k1 t376 false true true true (wrap64 (x9_1 + 1))) else (if (rd_T36 t376 x9_1).f0 = true then (zX.l0 k1 t376 false true true ((rd_T36 t376 x9_1).f1) (wrap64 (x9_1 + 1))) else (zX.l0 k1 t376 false true true false (wrap64 (x9_1 + 1))))) else (if (rd_T36 t376 x9_1).f0 = true then (if x8_1 = true then (zX.l0 k1 t376 false true (!((rd_T36 t376 x9_1).f1)) true (wrap64 (x9_1 + 1))) else (zX.l0 k1 t376 false true (!((rd_T36 t376 x9_1).f1)) ((rd_T36 t376 x9_1).f1) (wrap64 (x9_1 + 1)))) else (if x8_1 = true then (zX.l0 k1 t376 false true false true (wrap64 (x9_1 + 1))) else (zX.l0 k1 t376 false true false false (wrap64 (x9_1 + 1)))))) else (if x7_1 = true then (if x8_1 = true then (zX.l0 k1 t376 false false true true (wrap64 (x9_1 + 1))) else (if (rd_T36 t376 x9_1).f0 = true then (zX.l0 k1 t376 false false true ((rd_T36 t376 x9_1).f1) (wrap64 (x9_1 + 1))) else (zX.l0 k1 t376 false false true false (wrap64 (x9_1 + 1))))) else (if (rd_T36 t376 x9_1).f0 = true then (if x8_1 = true then (zX.l0 k1 t376 false false (!((rd_T36 t376 x9_1).f1)) true (wrap64 (x9_1 + 1))) else (zX.l0 k1 t376 false false (!((rd_T36 t376 x9_1).f1)) ((rd_T36 t376 x9_1).f1) (wrap64 (x9_1 + 1)))) else (if x8_1 = true then (zX.l0 k1 t376 false false false true (wrap64 (x9_1 + 1))) else (zX.l0 k1 t376 false false false false (wrap64 (x9_1 + 1))))))) else (if (rd_T36 t376 x9_1).f1 = true then (if x6_1 = true then (if x7_1 = true then (if x8_1 = true then (zX.l0 k1 t376 (((rd_T36 t376 x9_1).f2) == 0) true true true (wrap64 (x9_1 + 1))) else (if (rd_T36 t376 x9_1).f0 = true then (zX.l0 k1 t376 (((rd_T36 t376 x9_1).f2) == 0) true true ((rd_T36 t376 x9_1).f1) (wrap64 (x9_1 + 1))) else (zX.l0 k1 t376 (((rd_T36 t376 x9_1).f2) == 0) true true false (wrap64 (x9_1 + 1))))) else (if (rd_T36 t376 x9_1).f0 = true then (if x8_1 = true then (zX.l0 k1 t376 (((rd_T36 t376 x9_1).f2) == 0) true (!((rd_T36 t376 x9_1).f1)) true (wrap64 (x9_1 + 1))) else (zX.l0 k1 t376 (((rd_T36 t376 x9_1).f2) == 0) true (!((rd_T36 t376 x9_1).f1)) ((rd_T36 t376 x9_1).f1) (wrap64 (x9_1 + 1)))) else (if x8_1 = true then (zX.l0 k1 t376 (((rd_T36 t376 x9_1).f2) == 0) true false true (wrap64 (x9_1 + 1))) else (zX.l0 k1 t376 (((rd_T36 t376 x9_1).f2) == 0) true false false (wrap64 (x9_1 + 1)))))) else (if x7_1 = true then (if x8_1 = true then (zX.l0 k1 t376 (((rd_T36 t376 x9_1).f2) == 0) (((rd_T36 t376 x9_1).f2) != 0) true true (wrap64 (x9_1 + 1))) else (if (rd_T36 t376 x9_1).f0 = true then (zX.l0 k1 t376 (((rd_T36 t376 x9_1).f2) == 0) (((rd_T36 t376 x9_1).f2) != 0) true ((rd_T36 t376 x9_1).f1) (wrap64 (x9_1 + 1))) else (zX.l0 k1 t376 (((rd_T36 t376 x9_1).f2) == 0) (((rd_T36 t376 x9_1).f2) != 0) true false (wrap64 (x9_1 + 1))))) else (if (rd_T36 t376 x9_1).f0 = true then (if x8_1 = true then (zX.l0 k1 t376 (((rd_T36 t376 x9_1).f2) == 0) (((rd_T36 t376 x9_1).f2) != 0) (!((rd_T36 t376 x9_1).f1)) true (wrap64 (x9_1 + 1))) else (zX.l0 k1 t376 (((rd_T36 t376 x9_1).f2) == 0) (((rd_T36 t376 x9_1).f2) != 0) (!((rd_T36 t376 x9_1).f1)) ((rd_T36 t376 x9_1).f1) (wrap64 (x9_1 + 1)))) else (if x8_1 = true then (zX.l0 k1 t376 (((rd_T36 t376 x9_1).f2) == 0) (((rd_T36 t376 x9_1).f2) != 0) false true (wrap64 (x9_1 + 1))) else (zX.l0 k1 t376 (((rd_T36 t376 x9_1).f2) == 0) (((rd_T36 t376 x9_1).f2) != 0) false false (wrap64 (x9_1 + 1))))))) else (if x6_1 = true then (if x7_1 = true then (if x8_1 = true then (zX.l0 k1 t376 false true true true (wrap64 (x9_1 + 1))) else (if (rd_T36 t376 x9_1).f0 = true then (zX.l0 k1 t376 false true true ((rd_T36 t376 x9_1).f1) (wrap64 (x9_1 + 1))) else (zX.l0 k1 t376 false true true false (wrap64 (x9_1 + 1))))) else (if (rd_T36 t376 x9_1).f0 = true then (if x8_1 = true then (zX.l0 k1 t376 false true (!((rd_T36 t376 x9_1).f1)) true (wrap64 (x9_1 + 1))) else (zX.l0 k1 t376 false true (!((rd_T36 t376 x9_1).f1)) ((rd_T36 t376 x9_1).f1) (wrap64 (x9_1 + 1)))) else (if x8_1 = true then (zX.l0 k1 t376 false true false true (wrap64 (x9_1 + 1))) else (zX.l0 k1 t376 false true false false (wrap64 (x9_1 + 1)))))) else (if x7_1 = true then (if x8_1 = true then (zX.l0 k1 t376 false false true true (wrap64 (x9_1 + 1))) else (if (rd_T36 t376 x9_1).f0 = true then (zX.l0 k1 t376 false false true ((rd_T36 t376 x9_1).f1) (wrap64 (x9_1 + 1))) else (zX.l0 k1 t376 false false true false (wrap64 (x9_1 + 1))))) else (if (rd_T36 t376 x9_1).f0 = true then (if x8_1 = true then (zX.l0 k1 t376 false false (!((rd_T36 t376 x9_1).f1)) true (wrap64 (x9_1 + 1))) else (zX.l0 k1 t376 false false (!((rd_T36 t376 x9_1).f1)) ((rd_T36 t376 x9_1).f1) (wrap64 (x9_1 + 1)))) else (if x8_1 = true then (zX.l0 k1 t376 false false false true (wrap64 (x9_1 + 1))) else (zX.l0 k1 t376 false false false false (wrap64 (x9_1 + 1))))))))) = some (r1, r2) := by rw [if_neg (show ¬ (false = true) by decide)] at H; exact H
       clear H
       have H := H1
       clear H1
       obtain ⟨bq112, hbq112⟩ : ∃ b_ : Bool, b_ = ((rd_T36 t376 x9_1).f0) := ⟨_, rfl⟩
       replace H : (if (bq112 = true) then (if x6_1 = true then (if x7_1 = true then (if x8_1 = true then (zX.l0 k1 t376 false true true true (wrap64 (x9_1 + 1))) else (if bq112 = true then (zX.l0 k1 t376 false true true ((rd_T36 t376 x9_1).f1) (wrap64 (x9_1 + 1))) else (zX.l0 k1 t376 false true true false (wrap64 (x9_1 + 1))))) else (if bq112 = true then (if x8_1 = true then (zX.l0 k1 t376 false true (!((rd_T36 t376 x9_1).f1)) true (wrap64 (x9_1 + 1))) else (zX.l0 k1 t376 false true (!((rd_T36 t376 x9_1).f1)) ((rd_T36 t376 x9_1).f1) (wrap64 (x9_1 + 1)))) else (if x8_1 = true then (zX.l0 k1 t376 false true false true (wrap64 (x9_1 + 1))) else (zX.l0 k1 t376 false true false false (wrap64 (x9_1 + 1)))))) else (if x7_1 = true then (if x8_1 = true then (zX.l0 k1 t376 false false true true (wrap64 (x9_1 + 1))) else (if bq112 = true then (zX.l0 k1 t376 false false true ((rd_T36 t376 x9_1).f1) (wrap64 (x9_1 + 1))) else (zX.l0 k1 t376 false false true false (wrap64 (x9_1 + 1))))) else (if bq112 = true then (if x8_1 = true then (zX.l0 k1 t376 false false (!((rd_T36 t376 x9_1).f1)) true (wrap64 (x9_1 + 1))) else (zX.l0 k1 t376 false false (!((rd_T36 t376 x9_1).f1)) ((rd_T36 t376 x9_1).f1) (wrap64 (x9_1 + 1)))) else (if x8_1 = true then (zX.l0 k1 t376 false false false true (wrap64 (x9_1 + 1))) else (zX.l0 k1 t376 false false false false (wrap64 (x9_1 + 1))))))) else (if (rd_T36 t376 x9_1).f1 = true then (if x6_1 = true then (if x7_1 = true then (if x8_1 = true then (zX.l0 k1 t376 (((rd_T36 t376 x9_1).f2) == 0) true true true (wrap64 (x9_1 + 1))) else (if bq112 = true then (zX.l0 k1 t376 (((rd_T36 t376 x9_1).f2) == 0) true true ((rd_T36 t376 x9_1).f1) (wrap64 (x9_1 + 1))) else (zX.l0 k1 t376 (((rd_T36 t376 x9_1).f2) == 0) true true false (wrap64 (x9_1 + 1))))) else (if bq112 = true then (if x8_1 = true then (zX.l0 k1 t376 (((rd_T36 t376 x9_1).f2) == 0) true (!((rd_T36 t376 x9_1).f1)) true (wrap64 (x9_1 + 1))) else (zX.l0 k1 t376 (((rd_T36 t376 x9_1).f2) == 0) true (!((rd_T36 t376 x9_1).f1)) ((rd_T36 t376 x9_1).f1) (wrap64 (x9_1 + 1)))) else (if x8_1 = true then (zX.l0 k1 t376 (((rd_T36 t376 x9_1).f2) == 0) true false true (wrap64 (x9_1 + 1))) else (zX.l0 k1 t376 (((rd_T36 t376 x9_1).f2) == 0) true false false (wrap64 (x9_1 + 1)))))) else (if x7_1 = true then (if x8_1 = true then (zX.l0 k1 t376 (((rd_T36 t376 x9_1).f2) == 0) (((rd_T36 t376 x9_1).f2) != 0) true true (wrap64 (x9_1 + 1))) else (if bq112 = true then (zX.l0 k1 t376 (((rd_T36 t376 x9_1).f2) == 0) (((rd_T36 t376 x9_1).f2) != 0) true ((rd_T36 t376 x9_1).f1) (wrap64 (x9_1 + 1))) else (zX.l0 k1 t376 (((rd_T36 t376 x9_1).f2) == 0) (((rd_T36 t376 x9_1).f2) != 0) true false (wrap64 (x9_1 + 1))))) else (if bq112 = true then (if x8_1 = true then (zX.l0 k1 t376 (((rd_T36 t376 x9_1).f2) == 0) (((rd_T36 t376 x9_1).f2) != 0) (!((rd_T36 t376 x9_1).f1)) true (wrap64 (x9_1 + 1))) else (zX.l0 k1 t376 (((rd_T36 t376 x9_1).f2) == 0) (((rd_T36 t376 x9_1).f2) != 0) (!((rd_T36 t376 x9_1).f1)) ((rd_T36 t376 x9_1).f1) (wrap64 (x9_1 + 1)))) else (if x8_1 = true then (zX.l0 k1 t376 (((rd_T36 t376 x9_1).f2) == 0) (((rd_T36 t376 x9_1).f2) != 0) false true (wrap64 (x9_1 + 1))) else (zX.l0 k1 t376 (((rd_T36 t376 x9_1).f2) == 0) (((rd_T36 t376 x9_1).f2) != 0) false false (wrap64 (x9_1 + 1))))))) else (if x6_1 = true then (if x7_1 = true then (if x8_1 = true then (zX.l0 k1 t376 false true true true (wrap64 (x9_1 + 1))) else (if bq112 = true then (zX.l0 k1 t376 false true true ((rd_T36 t376 x9_1).f1) (wrap64 (x9_1 + 1))) else (zX.l0 k1 t376 false true true false (wrap64 (x9_1 + 1))))) else (if bq112 = true then (if x8_1 = true then (zX.l0 k1 t376 false true (!((rd_T36 t376 x9_1).f1)) true (wrap64 (x9_1 + 1))) else (zX.l0 k1 t376 false true (!((rd_T36 t376 x9_1).f1)) ((rd_T36 t376 x9_1).f1) (wrap64 (x9_1 + 1)))) else (if x8_1 = true then (zX.l0 k1 t376 false true false true (wrap64 (x9_1 + 1))) else (zX.l0 k1 t376 false true false false (wrap64 (x9_1 + 1)))))) else (if x7_1 = true then (if x8_1 = true then (zX.l0 k1 t376 false false true true (wrap64 (x9_1 + 1))) else (if bq112 = true then (zX.l0 k1 t376 false false true ((rd_T36 t376 x9_1).f1) (wrap64 (x9_1 + 1))) else (zX.l0 k1 t376 false false true false (wrap64 (x9_1 + 1))))) else (if bq112 = true then (if x8_1 = true then (zX.l0 k1 t376 false false (!((rd_T36 t376 x9_1).f1)) true (wrap64 (x9_1 + 1))) else (zX.l0 k1 t376 false false (!((rd_T36 t376 x9_1).f1)) ((rd_T36 t376 x9_1).f1) (wrap64 (x9_1 + 1)))) else (if x8_1 = true then (zX.l0 k1 t376 false false false true (wrap64 (x9_1 + 1))) else (zX.l0 k1 t376 false false false false (wrap64 (x9_1 + 1))))))))) = some (r1, r2) := by rw [← hbq112] at H; exact H
       have Nbq112 := zB.mk hbq112
       clear hbq112
       by_cases c113 : (bq112 = true)
       ·
        subst c113
        have H1 : (if x6_1 = true then (if x7_1 = true then (if x8_1 = true then (zX.l0 k1 t376 false true true true (wrap64 (x9_1 + 1))) else (if true = true then (zX.l0 k1 t376 false true true ((rd_T36 t376 x9_1).f1) (wrap64 (x9_1 + 1))) else (zX.l0 k1 t376 false true true false (wrap64 (x9_1 + 1))))) else (if true = true then (if x8_1 = true then (zX.l0 k1 t376 false true (!((rd_T36 t376 x9_1).f1)) true (wrap64 (x9_1 + 1))) else (zX.l0 k1 t376 false true (!((rd_T36 t376 x9_1).f1)) ((rd_T36 t376 x9_1).f1) (wrap64 (x9_1 + 1)))) else (if x8_1 = true then (zX.l0 k1 t376 false true false true (wrap64 (x9_1 + 1))) else (zX.l0 k1 t376 false true false false (wrap64 (x9_1 + 1)))))) else (if x7_1 = true then (if x8_1 = true then (zX.l0 k1 t376 false false true true (wrap64 (x9_1 + 1))) else (if true = true then (zX.l0 k1 t376 false false true ((rd_T36 t376 x9_1).f1) (wrap64 (x9_1 + 1))) else (zX.l0 k1 t376 false false true false (wrap64 (x9_1 + 1))))) else (if true = true then (if x8_1 = true then (zX.l0 k1 t376 false false (!((rd_T36 t376 x9_1).f1)) true (wrap64 (x9_1 + 1))) else (zX.l0 k1 t376 false false (!((rd_T36 t376 x9_1).f1)) ((rd_T36 t376 x9_1).f1) (wrap64 (x9_1 + 1)))) else (if x8_1 = true then (zX.l0 k1 t376 false false false true (wrap64 (x9_1 + 1))) else (zX.l0 k1 t376 false false false false (wrap64 (x9_1 + 1))))))) = some (r1, r2) := by rw [if_pos rfl] at H; exact H
        clear H
        have H := H1
        clear H1
        by_cases c114 : x6_1 = true
        ·
         subst c114
         have H1 : (if x7_1 = true then (if x8_1 = true then (zX.l0 k1 t376 false true true true (wrap64 (x9_1 + 1))) else (if true = true then (zX.l0 k1 t376 false true true ((rd_T36 t376 x9_1).f1) (wrap64 (x9_1 + 1))) else (zX.l0 k1 t376 false true true false (wrap64 (x9_1 + 1))))) else (if true = true then (if x8_1 = true then (zX.l0 k1 t376 false true (!((rd_T36 t376 x9_1).f1)) true (wrap64 (x9_1 + 1))) else (zX.l0 k1 t376 false true (!((rd_T36 t376 x9_1).f1)) ((rd_T36 t376 x9_1).f1) (wrap64 (x9_1 + 1)))) else (if x8_1 = true then (zX.l0 k1 t376 false true false true (wrap64 (x9_1 + 1))) else (zX.l0 k1 t376 false true false false (wrap64 (x9_1 + 1)))))) = some (r1, r2) := by rw [if_pos rfl] at H; exact H
         clear H
         have H := H1
         clear H1
         by_cases c115 : x7_1 = true
         ·
          subst c115
          have H1 : (if x8_1 = true then (zX.l0 k1 t376 false true true true (wrap64 (x9_1 + 1))) else (if true = true then (zX.l0 k1 t376 false true true ((rd_T36 t376 x9_1).f1) (wrap64 (x9_1 + 1))) else (zX.l0 k1 t376 false true true false (wrap64 (x9_1 + 1))))) = some (r1, r2) := by rw [if_pos rfl] at H; exact H
          clear H
          have H := H1
          clear H1
          by_cases c116 : x8_1 = true
          ·
           subst c116
           have H1 : (zX.l0 k1 t376 false true true true (wrap64 (x9_1 + 1))) = some (r1, r2) := by rw [if_pos rfl] at H; exact H
           clear H
           have H := H1
           clear H1
           have H' := zB.mk H
           clear H
           obtain ⟨Ao117, co117, eo117⟩ := Kd.R_slice HO_4.out
           subst eo117
           have p379 : 0 ≤ (x9_1 : Int) := of_decide_eq_true (by first | (with_reducible assumption) | assumption)
           have q379 : x9_1 < (t376.length : Int) := of_decide_eq_true (by first | (with_reducible assumption) | assumption)
           obtain ⟨ad379, e379, hx379_0, hx379_1, hx379_2⟩ := at_T36 (Kd.R_reads' HO_4.out).2.2 x9_1 p379 q379
           (try rw [← Nbq112.out] at hx379_0)
           (try rw [← Nbq112.out] at hx379_1)
           cases e379
           replace p379 := eq_true p379
           replace q379 := eq_true q379
           go_wp2_with (first | ((with_reducible refine zP (N := 10) rfl ?_); refine zO ?hg (N := 10) ?hd (cs := #[.bool false, .bool false, .int .i64 0]) (t := 36) ?hr ?_; (case hd => rfl); (case hg => rfl); (case hr => first | (go_simp; done) | (go_simp; rfl)); intro gb380 hg w118 hbox hb; have n0_ := zB.mk (Kd.R_below (Kd.R_elderB (by (with_reducible repeat (first | apply Kd.R_alloc | apply Kd.R_drewN | apply Kd.R_drew)); exact HO_4.out) gb380 (Nat.le_of_eq hg.symm)) hb); have n1_ := zB.mk (zN (g := gb374) (o := .cells #[.int .i64 a0_0, .int .i64 a0_1, .slice A0_2 l0_2.length c0_2] 28 (0, 0)) (by (with_reducible repeat (first | refine zC ?_ _ | refine zG ?_ | refine zD ?_ _)); exact BK374.out) hb); have n2_ := zB.mk (zK (by repeat (first | (with_reducible first | exact HB.out | apply zF | apply zA | apply zE | refine zH ?_ GE374.out) | exact HB.out)) hb); have n3_ := zB.mk (hbox); have n4_ := zB.mk ((by rw [hg]; exact (zM (by repeat (first | (with_reducible first | exact HB.out | apply zF | apply zA | apply zE | refine zH ?_ GE374.out) | exact HB.out))) : w.heap.size ≤ gb380)); have n5_ := n4_; have n6_ := zB.mk ((by rw [hg]; exact Nat.ne_of_lt (zQ (by (with_reducible repeat (first | refine zC ?_ _ | refine zG ?_ | refine zD ?_ _)); exact BK374.out)) : gb374 ≠ gb380)); have n7_ := zB.mk n6_.out.symm; clear HO_4; clear BK374; clear HB; have HO_4 := n0_; have BK374 := n1_; have HB := n2_; have BK380 := n3_; have GW380 := n4_; have GE380 := n5_; have NB374_380 := n6_; have NB380_374 := n7_; clear n0_ n1_ n2_ n3_ n4_ n5_ n6_ n7_; clear hb hbox hg; have hnb119 := NB380_374.out; have hnc119 := NB374_380.out; have hcz120_0 : w118.cell? ⟨gb380, 0, none⟩ = some (.bool false) := zJ BK380.out 0; have hcz120_1 : w118.cell? ⟨gb380, 1, none⟩ = some (.bool false) := zJ BK380.out 1; have hcz120_2 : w118.cell? ⟨gb380, 2, none⟩ = some (.int .i64 0) := zJ BK380.out 2; have hfz120_0 := zI BK380.out 0; have hfz120_1 := zI BK380.out 1; have hfz120_2 := zI BK380.out 2))
           go_roundg k1
           case measure => have := HK1.out; omega
           case rel => exact ⟨(false), (true), (true), (true), (wrap64 (x9_1 + 1)), (by first | rfl | (simp; done) | (simp [*]; done)), (by first | rfl | (simp; done) | (simp [*]; done)), (by first | rfl | (simp; done) | (simp [*]; done)), (by first | rfl | (simp; done) | (simp [*]; done)), (by first | rfl | (simp; done) | (simp [*]; done)), H', ⟨by have := HK1.out; omega⟩, ⟨by (with_reducible repeat (first | apply Kd.R_alloc | apply Kd.R_drewN | apply Kd.R_drew)); exact Kd.R_mono (Kd.R_far (p := ⟨gb380, 2, none⟩) (Kd.R_far (p := ⟨gb380, 1, none⟩) (Kd.R_far (p := ⟨gb380, 0, none⟩) (Kd.R_mono HO_4.out (fun k_ hk => (⟨hk, hk.2⟩ : _ ∧ k_ ≠ gb380))) (fun _ hk => hk.2) (.bool true)) (fun _ hk => hk.2) (.bool ((rd_T36 t376 x9_1).f1))) (fun _ hk => hk.2) (.int .i64 ((rd_T36 t376 x9_1).f2))) (fun _ hk => trivial)⟩, ⟨by (with_reducible repeat (first | refine zC ?_ _ | refine zG ?_ | refine zD ?_ _)); refine zL ?_ NB374_380.out _; (with_reducible repeat (first | refine zC ?_ _ | refine zG ?_ | refine zD ?_ _)); refine zL ?_ NB374_380.out _; (with_reducible repeat (first | refine zC ?_ _ | refine zG ?_ | refine zD ?_ _)); refine zL ?_ NB374_380.out _; (with_reducible repeat (first | refine zC ?_ _ | refine zG ?_ | refine zD ?_ _)); exact BK374.out⟩, ⟨by repeat (first | (with_reducible first | exact HB.out | apply zF | apply zA | apply zE | refine zH ?_ GE374.out | refine zH ?_ GE380.out) | exact HB.out)⟩⟩
          ·
           replace c116 := Bool.eq_false_iff.mpr c116
           subst c116
           have H1 : (if true = true then (zX.l0 k1 t376 false true true ((rd_T36 t376 x9_1).f1) (wrap64 (x9_1 + 1))) else (zX.l0 k1 t376 false true true false (wrap64 (x9_1 + 1)))) = some (r1, r2) := by rw [if_neg (show ¬ (false = true) by decide)] at H; exact H
           clear H
           have H := H1
           clear H1
           have H1 : (zX.l0 k1 t376 false true true ((rd_T36 t376 x9_1).f1) (wrap64 (x9_1 + 1))) = some (r1, r2) := by rw [if_pos rfl] at H; exact H
           clear H
           have H := H1
           clear H1
           have H' := zB.mk H
           clear H
           obtain ⟨Ao121, co121, eo121⟩ := Kd.R_slice HO_4.out
           subst eo121
           have p379 : 0 ≤ (x9_1 : Int) := of_decide_eq_true (by first | (with_reducible assumption) | assumption)
           have q379 : x9_1 < (t376.length : Int) := of_decide_eq_true (by first | (with_reducible assumption) | assumption)
           obtain ⟨ad379, e379, hx379_0, hx379_1, hx379_2⟩ := at_T36 (Kd.R_reads' HO_4.out).2.2 x9_1 p379 q379
           (try rw [← Nbq112.out] at hx379_0)
           (try rw [← Nbq112.out] at hx379_1)
           cases e379
           replace p379 := eq_true p379
           replace q379 := eq_true q379
           go_wp2_with (first | ((with_reducible refine zP (N := 10) rfl ?_); refine zO ?hg (N := 10) ?hd (cs := #[.bool false, .bool false, .int .i64 0]) (t := 36) ?hr ?_; (case hd => rfl); (case hg => rfl); (case hr => first | (go_simp; done) | (go_simp; rfl)); intro gb380 hg w122 hbox hb; have n0_ := zB.mk (Kd.R_below (Kd.R_elderB (by (with_reducible repeat (first | apply Kd.R_alloc | apply Kd.R_drewN | apply Kd.R_drew)); exact HO_4.out) gb380 (Nat.le_of_eq hg.symm)) hb); have n1_ := zB.mk (zN (g := gb374) (o := .cells #[.int .i64 a0_0, .int .i64 a0_1, .slice A0_2 l0_2.length c0_2] 28 (0, 0)) (by (with_reducible repeat (first | refine zC ?_ _ | refine zG ?_ | refine zD ?_ _)); exact BK374.out) hb); have n2_ := zB.mk (zK (by repeat (first | (with_reducible first | exact HB.out | apply zF | apply zA | apply zE | refine zH ?_ GE374.out) | exact HB.out)) hb); have n3_ := zB.mk (hbox); have n4_ := zB.mk ((by rw [hg]; exact (zM (by repeat (first | (with_reducible first | exact HB.out | apply zF | apply zA | apply zE | refine zH ?_ GE374.out) | exact HB.out))) : w.heap.size ≤ gb380)); have n5_ := n4_; have n6_ := zB.mk ((by rw [hg]; exact Nat.ne_of_lt (zQ (by (with_reducible repeat (first | refine zC ?_ _ | refine zG ?_ | refine zD ?_ _)); exact BK374.out)) : gb374 ≠ gb380)); have n7_ := zB.mk n6_.out.symm; clear HO_4; clear BK374; clear HB; have HO_4 := n0_; have BK374 := n1_; have HB := n2_; have BK380 := n3_; have GW380 := n4_; have GE380 := n5_; have NB374_380 := n6_; have NB380_374 := n7_; clear n0_ n1_ n2_ n3_ n4_ n5_ n6_ n7_; clear hb hbox hg; have hnb123 := NB380_374.out; have hnc123 := NB374_380.out; have hcz124_0 : w122.cell? ⟨gb380, 0, none⟩ = some (.bool false) := zJ BK380.out 0; have hcz124_1 : w122.cell? ⟨gb380, 1, none⟩ = some (.bool false) := zJ BK380.out 1; have hcz124_2 : w122.cell? ⟨gb380, 2, none⟩ = some (.int .i64 0) := zJ BK380.out 2; have hfz124_0 := zI BK380.out 0; have hfz124_1 := zI BK380.out 1; have hfz124_2 := zI BK380.out 2))
           go_roundg k1
           case measure => have := HK1.out; omega
           case rel => exact ⟨(false), (true), (true), ((rd_T36 t376 x9_1).f1), (wrap64 (x9_1 + 1)), (by first | rfl | (simp; done) | (simp [*]; done)), (by first | rfl | (simp; done) | (simp [*]; done)), (by first | rfl | (simp; done) | (simp [*]; done)), (by first | rfl | (simp; done) | (simp [*]; done)), (by first | rfl | (simp; done) | (simp [*]; done)), H', ⟨by have := HK1.out; omega⟩, ⟨by (with_reducible repeat (first | apply Kd.R_alloc | apply Kd.R_drewN | apply Kd.R_drew)); exact Kd.R_mono (Kd.R_far (p := ⟨gb380, 2, none⟩) (Kd.R_far (p := ⟨gb380, 1, none⟩) (Kd.R_far (p := ⟨gb380, 0, none⟩) (Kd.R_mono HO_4.out (fun k_ hk => (⟨hk, hk.2⟩ : _ ∧ k_ ≠ gb380))) (fun _ hk => hk.2) (.bool true)) (fun _ hk => hk.2) (.bool ((rd_T36 t376 x9_1).f1))) (fun _ hk => hk.2) (.int .i64 ((rd_T36 t376 x9_1).f2))) (fun _ hk => trivial)⟩, ⟨by (with_reducible repeat (first | refine zC ?_ _ | refine zG ?_ | refine zD ?_ _)); refine zL ?_ NB374_380.out _; (with_reducible repeat (first | refine zC ?_ _ | refine zG ?_ | refine zD ?_ _)); refine zL ?_ NB374_380.out _; (with_reducible repeat (first | refine zC ?_ _ | refine zG ?_ | refine zD ?_ _)); refine zL ?_ NB374_380.out _; (with_reducible repeat (first | refine zC ?_ _ | refine zG ?_ | refine zD ?_ _)); exact BK374.out⟩, ⟨by repeat (first | (with_reducible first | exact HB.out | apply zF | apply zA | apply zE | refine zH ?_ GE374.out | refine zH ?_ GE380.out) | exact HB.out)⟩⟩
         ·
          replace c115 := Bool.eq_false_iff.mpr c115
          subst c115
          have H1 : (if true = true then (if x8_1 = true then (zX.l0 k1 t376 false true (!((rd_T36 t376 x9_1).f1)) true (wrap64 (x9_1 + 1))) else (zX.l0 k1 t376 false true (!((rd_T36 t376 x9_1).f1)) ((rd_T36 t376 x9_1).f1) (wrap64 (x9_1 + 1)))) else (if x8_1 = true then (zX.l0 k1 t376 false true false true (wrap64 (x9_1 + 1))) else (zX.l0 k1 t376 false true false false (wrap64 (x9_1 + 1))))) = some (r1, r2) := by rw [if_neg (show ¬ (false = true) by decide)] at H; exact H
          clear H
          have H := H1
          clear H1
          have H1 : (if x8_1 = true then (zX.l0 k1 t376 false true (!((rd_T36 t376 x9_1).f1)) true (wrap64 (x9_1 + 1))) else (zX.l0 k1 t376 false true (!((rd_T36 t376 x9_1).f1)) ((rd_T36 t376 x9_1).f1) (wrap64 (x9_1 + 1)))) = some (r1, r2) := by rw [if_pos rfl] at H; exact H
          clear H
          have H := H1
          clear H1
          by_cases c125 : x8_1 = true
          ·
           subst c125
           have H1 : (zX.l0 k1 t376 false true (!((rd_T36 t376 x9_1).f1)) true (wrap64 (x9_1 + 1))) = some (r1, r2) := by rw [if_pos rfl] at H; exact H
           clear H
           have H := H1
           clear H1
           have H' := zB.mk H
           clear H
           obtain ⟨Ao126, co126, eo126⟩ := Kd.R_slice HO_4.out
           subst eo126
           have p379 : 0 ≤ (x9_1 : Int) := of_decide_eq_true (by first | (with_reducible assumption) | assumption)
           have q379 : x9_1 < (t376.length : Int) := of_decide_eq_true (by first | (with_reducible assumption) | assumption)
           obtain ⟨ad379, e379, hx379_0, hx379_1, hx379_2⟩ := at_T36 (Kd.R_reads' HO_4.out).2.2 x9_1 p379 q379
           (try rw [← Nbq112.out] at hx379_0)
           (try rw [← Nbq112.out] at hx379_1)
           cases e379
           replace p379 := eq_true p379
           replace q379 := eq_true q379
           go_wp2_with (first | ((with_reducible refine zP (N := 10) rfl ?_); refine zO ?hg (N := 10) ?hd (cs := #[.bool false, .bool false, .int .i64 0]) (t := 36) ?hr ?_; (case hd => rfl); (case hg => rfl); (case hr => first | (go_simp; done) | (go_simp; rfl)); intro gb380 hg w127 hbox hb; have n0_ := zB.mk (Kd.R_below (Kd.R_elderB (by (with_reducible repeat (first | apply Kd.R_alloc | apply Kd.R_drewN | apply Kd.R_drew)); exact HO_4.out) gb380 (Nat.le_of_eq hg.symm)) hb); have n1_ := zB.mk (zN (g := gb374) (o := .cells #[.int .i64 a0_0, .int .i64 a0_1, .slice A0_2 l0_2.length c0_2] 28 (0, 0)) (by (with_reducible repeat (first | refine zC ?_ _ | refine zG ?_ | refine zD ?_ _)); exact BK374.out) hb); have n2_ := zB.mk (zK (by repeat (first | (with_reducible first | exact HB.out | apply zF | apply zA | apply zE | refine zH ?_ GE374.out) | exact HB.out)) hb); have n3_ := zB.mk (hbox); have n4_ := zB.mk ((by rw [hg]; exact (zM (by repeat (first | (with_reducible first | exact HB.out | apply zF | apply zA | apply zE | refine zH ?_ GE374.out) | exact HB.out))) : w.heap.size ≤ gb380)); have n5_ := n4_; have n6_ := zB.mk ((by rw [hg]; exact Nat.ne_of_lt (zQ (by (with_reducible repeat (first | refine zC ?_ _ | refine zG ?_ | refine zD ?_ _)); exact BK374.out)) : gb374 ≠ gb380)); have n7_ := zB.mk n6_.out.symm; clear HO_4; clear BK374; clear HB; have HO_4 := n0_; have BK374 := n1_; have HB := n2_; have BK380 := n3_; have GW380 := n4_; have GE380 := n5_; have NB374_380 := n6_; have NB380_374 := n7_; clear n0_ n1_ n2_ n3_ n4_ n5_ n6_ n7_; clear hb hbox hg; have hnb128 := NB380_374.out; have hnc128 := NB374_380.out; have hcz129_0 : w127.cell? ⟨gb380, 0, none⟩ = some (.bool false) := zJ BK380.out 0; have hcz129_1 : w127.cell? ⟨gb380, 1, none⟩ = some (.bool false) := zJ BK380.out 1; have hcz129_2 : w127.cell? ⟨gb380, 2, none⟩ = some (.int .i64 0) := zJ BK380.out 2; have hfz129_0 := zI BK380.out 0; have hfz129_1 := zI BK380.out 1; have hfz129_2 := zI BK380.out 2))
           go_roundg k1
           case measure => have := HK1.out; omega
           case rel => exact ⟨(false), (true), (!((rd_T36 t376 x9_1).f1)), (true), (wrap64 (x9_1 + 1)), (by first | rfl | (simp; done) | (simp [*]; done)), (by first | rfl | (simp; done) | (simp [*]; done)), (by first | rfl | (simp; done) | (simp [*]; done)), (by first | rfl | (simp; done) | (simp [*]; done)), (by first | rfl | (simp; done) | (simp [*]; done)), H', ⟨by have := HK1.out; omega⟩, ⟨by (with_reducible repeat (first | apply Kd.R_alloc | apply Kd.R_drewN | apply Kd.R_drew)); exact Kd.R_mono (Kd.R_far (p := ⟨gb380, 2, none⟩) (Kd.R_far (p := ⟨gb380, 1, none⟩) (Kd.R_far (p := ⟨gb380, 0, none⟩) (Kd.R_mono HO_4.out (fun k_ hk => (⟨hk, hk.2⟩ : _ ∧ k_ ≠ gb380))) (fun _ hk => hk.2) (.bool true)) (fun _ hk => hk.2) (.bool ((rd_T36 t376 x9_1).f1))) (fun _ hk => hk.2) (.int .i64 ((rd_T36 t376 x9_1).f2))) (fun _ hk => trivial)⟩, ⟨by (with_reducible repeat (first | refine zC ?_ _ | refine zG ?_ | refine zD ?_ _)); refine zL ?_ NB374_380.out _; (with_reducible repeat (first | refine zC ?_ _ | refine zG ?_ | refine zD ?_ _)); refine zL ?_ NB374_380.out _; (with_reducible repeat (first | refine zC ?_ _ | refine zG ?_ | refine zD ?_ _)); refine zL ?_ NB374_380.out _; (with_reducible repeat (first | refine zC ?_ _ | refine zG ?_ | refine zD ?_ _)); exact BK374.out⟩, ⟨by repeat (first | (with_reducible first | exact HB.out | apply zF | apply zA | apply zE | refine zH ?_ GE374.out | refine zH ?_ GE380.out) | exact HB.out)⟩⟩
          ·
           replace c125 := Bool.eq_false_iff.mpr c125
           subst c125
           have H1 : (zX.l0 k1 t376 false true (!((rd_T36 t376 x9_1).f1)) ((rd_T36 t376 x9_1).f1) (wrap64 (x9_1 + 1))) = some (r1, r2) := by rw [if_neg (show ¬ (false = true) by decide)] at H; exact H
           clear H
           have H := H1
           clear H1
           have H' := zB.mk H
           clear H
           obtain ⟨Ao130, co130, eo130⟩ := Kd.R_slice HO_4.out
           subst eo130
           have p379 : 0 ≤ (x9_1 : Int) := of_decide_eq_true (by first | (with_reducible assumption) | assumption)
           have q379 : x9_1 < (t376.length : Int) := of_decide_eq_true (by first | (with_reducible assumption) | assumption)
           obtain ⟨ad379, e379, hx379_0, hx379_1, hx379_2⟩ := at_T36 (Kd.R_reads' HO_4.out).2.2 x9_1 p379 q379
           (try rw [← Nbq112.out] at hx379_0)
           (try rw [← Nbq112.out] at hx379_1)
           cases e379
           replace p379 := eq_true p379
           replace q379 := eq_true q379
           go_wp2_with (first | ((with_reducible refine zP (N := 10) rfl ?_); refine zO ?hg (N := 10) ?hd (cs := #[.bool false, .bool false, .int .i64 0]) (t := 36) ?hr ?_; (case hd => rfl); (case hg => rfl); (case hr => first | (go_simp; done) | (go_simp; rfl)); intro gb380 hg w131 hbox hb; have n0_ := zB.mk (Kd.R_below (Kd.R_elderB (by (with_reducible repeat (first | apply Kd.R_alloc | apply Kd.R_drewN | apply Kd.R_drew)); exact HO_4.out) gb380 (Nat.le_of_eq hg.symm)) hb); have n1_ := zB.mk (zN (g := gb374) (o := .cells #[.int .i64 a0_0, .int .i64 a0_1, .slice A0_2 l0_2.length c0_2] 28 (0, 0)) (by (with_reducible repeat (first | refine zC ?_ _ | refine zG ?_ | refine zD ?_ _)); exact BK374.out) hb); have n2_ := zB.mk (zK (by repeat (first | (with_reducible first | exact HB.out | apply zF | apply zA | apply zE | refine zH ?_ GE374.out) | exact HB.out)) hb); have n3_ := zB.mk (hbox); have n4_ := zB.mk ((by rw [hg]; exact (zM (by repeat (first | (with_reducible first | exact HB.out | apply zF | apply zA | apply zE | refine zH ?_ GE374.out) | exact HB.out))) : w.heap.size ≤ gb380)); have n5_ := n4_; have n6_ := zB.mk ((by rw [hg]; exact Nat.ne_of_lt (zQ (by (with_reducible repeat (first | refine zC ?_ _ | refine zG ?_ | refine zD ?_ _)); exact BK374.out)) : gb374 ≠ gb380)); have n7_ := zB.mk n6_.out.symm; clear HO_4; clear BK374; clear HB; have HO_4 := n0_; have BK374 := n1_; have HB := n2_; have BK380 := n3_; have GW380 := n4_; have GE380 := n5_; have NB374_380 := n6_; have NB380_374 := n7_; clear n0_ n1_ n2_ n3_ n4_ n5_ n6_ n7_; clear hb hbox hg; have hnb132 := NB380_374.out; have hnc132 := NB374_380.out; have hcz133_0 : w131.cell? ⟨gb380, 0, none⟩ = some (.bool false) := zJ BK380.out 0; have hcz133_1 : w131.cell? ⟨gb380, 1, none⟩ = some (.bool false) := zJ BK380.out 1; have hcz133_2 : w131.cell? ⟨gb380, 2, none⟩ = some (.int .i64 0) := zJ BK380.out 2; have hfz133_0 := zI BK380.out 0; have hfz133_1 := zI BK380.out 1; have hfz133_2 := zI BK380.out 2))
           go_roundg k1
           case measure => have := HK1.out; omega
           case rel => exact ⟨(false), (true), (!((rd_T36 t376 x9_1).f1)), ((rd_T36 t376 x9_1).f1), (wrap64 (x9_1 + 1)), (by first | rfl | (simp; done) | (simp [*]; done)), (by first | rfl | (simp; done) | (simp [*]; done)), (by first | rfl | (simp; done) | (simp [*]; done)), (by first | rfl | (simp; done) | (simp [*]; done)), (by first | rfl | (simp; done) | (simp [*]; done)), H', ⟨by have := HK1.out; omega⟩, ⟨by (with_reducible repeat (first | apply Kd.R_alloc | apply Kd.R_drewN | apply Kd.R_drew)); exact Kd.R_mono (Kd.R_far (p := ⟨gb380, 2, none⟩) (Kd.R_far (p := ⟨gb380, 1, none⟩) (Kd.R_far (p := ⟨gb380, 0, none⟩) (Kd.R_mono HO_4.out (fun k_ hk => (⟨hk, hk.2⟩ : _ ∧ k_ ≠ gb380))) (fun _ hk => hk.2) (.bool true)) (fun _ hk => hk.2) (.bool ((rd_T36 t376 x9_1).f1))) (fun _ hk => hk.2) (.int .i64 ((rd_T36 t376 x9_1).f2))) (fun _ hk => trivial)⟩, ⟨by (with_reducible repeat (first | refine zC ?_ _ | refine zG ?_ | refine zD ?_ _)); refine zL ?_ NB374_380.out _; (with_reducible repeat (first | refine zC ?_ _ | refine zG ?_ | refine zD ?_ _)); refine zL ?_ NB374_380.out _; (with_reducible repeat (first | refine zC ?_ _ | refine zG ?_ | refine zD ?_ _)); refine zL ?_ NB374_380.out _; (with_reducible repeat (first | refine zC ?_ _ | refine zG ?_ | refine zD ?_ _)); exact BK374.out⟩, ⟨by repeat (first | (with_reducible first | exact HB.out | apply zF | apply zA | apply zE | refine zH ?_ GE374.out | refine zH ?_ GE380.out) | exact HB.out)⟩⟩
        ·
         replace c114 := Bool.eq_false_iff.mpr c114
         subst c114
         have H1 : (if x7_1 = true then (if x8_1 = true then (zX.l0 k1 t376 false false true true (wrap64 (x9_1 + 1))) else (if true = true then (zX.l0 k1 t376 false false true ((rd_T36 t376 x9_1).f1) (wrap64 (x9_1 + 1))) else (zX.l0 k1 t376 false false true false (wrap64 (x9_1 + 1))))) else (if true = true then (if x8_1 = true then (zX.l0 k1 t376 false false (!((rd_T36 t376 x9_1).f1)) true (wrap64 (x9_1 + 1))) else (zX.l0 k1 t376 false false (!((rd_T36 t376 x9_1).f1)) ((rd_T36 t376 x9_1).f1) (wrap64 (x9_1 + 1)))) else (if x8_1 = true then (zX.l0 k1 t376 false false false true (wrap64 (x9_1 + 1))) else (zX.l0 k1 t376 false false false false (wrap64 (x9_1 + 1)))))) = some (r1, r2) := by rw [if_neg (show ¬ (false = true) by decide)] at H; exact H
         clear H
         have H := H1
         clear H1
         by_cases c134 : x7_1 = true
         ·
          subst c134
          have H1 : (if x8_1 = true then (zX.l0 k1 t376 false false true true (wrap64 (x9_1 + 1))) else (if true = true then (zX.l0 k1 t376 false false true ((rd_T36 t376 x9_1).f1) (wrap64 (x9_1 + 1))) else (zX.l0 k1 t376 false false true false (wrap64 (x9_1 + 1))))) = some (r1, r2) := by rw [if_pos rfl] at H; exact H
          clear H
          have H := H1
          clear H1
          by_cases c135 : x8_1 = true
          ·
           subst c135
           have H1 : (zX.l0 k1 t376 false false true true (wrap64 (x9_1 + 1))) = some (r1, r2) := by rw [if_pos rfl] at H; exact H
           clear H
           have H := H1
           clear H1
           have H' := zB.mk H
           clear H
           obtain ⟨Ao136, co136, eo136⟩ := Kd.R_slice HO_4.out
           subst eo136
           have p379 : 0 ≤ (x9_1 : Int) := of_decide_eq_true (by first | (with_reducible assumption) | assumption)
           have q379 : x9_1 < (t376.length : Int) := of_decide_eq_true (by first | (with_reducible assumption) | assumption)
           obtain ⟨ad379, e379, hx379_0, hx379_1, hx379_2⟩ := at_T36 (Kd.R_reads' HO_4.out).2.2 x9_1 p379 q379
           (try rw [← Nbq112.out] at hx379_0)
           (try rw [← Nbq112.out] at hx379_1)
           cases e379
           replace p379 := eq_true p379
           replace q379 := eq_true q379
           go_wp2_with (first | ((with_reducible refine zP (N := 10) rfl ?_); refine zO ?hg (N := 10) ?hd (cs := #[.bool false, .bool false, .int .i64 0]) (t := 36) ?hr ?_; (case hd => rfl); (case hg => rfl); (case hr => first | (go_simp; done) | (go_simp; rfl)); intro gb380 hg w137 hbox hb; have n0_ := zB.mk (Kd.R_below (Kd.R_elderB (by (with_reducible repeat (first | apply Kd.R_alloc | apply Kd.R_drewN | apply Kd.R_drew)); exact HO_4.out) gb380 (Nat.le_of_eq hg.symm)) hb); have n1_ := zB.mk (zN (g := gb374) (o := .cells #[.int .i64 a0_0, .int .i64 a0_1, .slice A0_2 l0_2.length c0_2] 28 (0, 0)) (by (with_reducible repeat (first | refine zC ?_ _ | refine zG ?_ | refine zD ?_ _)); exact BK374.out) hb); have n2_ := zB.mk (zK (by repeat (first | (with_reducible first | exact HB.out | apply zF | apply zA | apply zE | refine zH ?_ GE374.out) | exact HB.out)) hb); have n3_ := zB.mk (hbox); have n4_ := zB.mk ((by rw [hg]; exact (zM (by repeat (first | (with_reducible first | exact HB.out | apply zF | apply zA | apply zE | refine zH ?_ GE374.out) | exact HB.out))) : w.heap.size ≤ gb380)); have n5_ := n4_; have n6_ := zB.mk ((by rw [hg]; exact Nat.ne_of_lt (zQ (by (with_reducible repeat (first | refine zC ?_ _ | refine zG ?_ | refine zD ?_ _)); exact BK374.out)) : gb374 ≠ gb380)); have n7_ := zB.mk n6_.out.symm; clear HO_4; clear BK374; clear HB; have HO_4 := n0_; have BK374 := n1_; have HB := n2_; have BK380 := n3_; have GW380 := n4_; have GE380 := n5_; have NB374_380 := n6_; have NB380_374 := n7_; clear n0_ n1_ n2_ n3_ n4_ n5_ n6_ n7_; clear hb hbox hg; have hnb138 := NB380_374.out; have hnc138 := NB374_380.out; have hcz139_0 : w137.cell? ⟨gb380, 0, none⟩ = some (.bool false) := zJ BK380.out 0; have hcz139_1 : w137.cell? ⟨gb380, 1, none⟩ = some (.bool false) := zJ BK380.out 1; have hcz139_2 : w137.cell? ⟨gb380, 2, none⟩ = some (.int .i64 0) := zJ BK380.out 2; have hfz139_0 := zI BK380.out 0; have hfz139_1 := zI BK380.out 1; have hfz139_2 := zI BK380.out 2))
           go_roundg k1
           case measure => have := HK1.out; omega
           case rel => exact ⟨(false), (false), (true), (true), (wrap64 (x9_1 + 1)), (by first | rfl | (simp; done) | (simp [*]; done)), (by first | rfl | (simp; done) | (simp [*]; done)), (by first | rfl | (simp; done) | (simp [*]; done)), (by first | rfl | (simp; done) | (simp [*]; done)), (by first | rfl | (simp; done) | (simp [*]; done)), H', ⟨by have := HK1.out; omega⟩, ⟨by (with_reducible repeat (first | apply Kd.R_alloc | apply Kd.R_drewN | apply Kd.R_drew)); exact Kd.R_mono (Kd.R_far (p := ⟨gb380, 2, none⟩) (Kd.R_far (p := ⟨gb380, 1, none⟩) (Kd.R_far (p := ⟨gb380, 0, none⟩) (Kd.R_mono HO_4.out (fun k_ hk => (⟨hk, hk.2⟩ : _ ∧ k_ ≠ gb380))) (fun _ hk => hk.2) (.bool true)) (fun _ hk => hk.2) (.bool ((rd_T36 t376 x9_1).f1))) (fun _ hk => hk.2) (.int .i64 ((rd_T36 t376 x9_1).f2))) (fun _ hk => trivial)⟩, ⟨by (with_reducible repeat (first | refine zC ?_ _ | refine zG ?_ | refine zD ?_ _)); refine zL ?_ NB374_380.out _; (with_reducible repeat (first | refine zC ?_ _ | refine zG ?_ | refine zD ?_ _)); refine zL ?_ NB374_380.out _; (with_reducible repeat (first | refine zC ?_ _ | refine zG ?_ | refine zD ?_ _)); refine zL ?_ NB374_380.out _; (with_reducible repeat (first | refine zC ?_ _ | refine zG ?_ | refine zD ?_ _)); exact BK374.out⟩, ⟨by repeat (first | (with_reducible first | exact HB.out | apply zF | apply zA | apply zE | refine zH ?_ GE374.out | refine zH ?_ GE380.out) | exact HB.out)⟩⟩
          ·
           replace c135 := Bool.eq_false_iff.mpr c135
           subst c135
           have H1 : (if true = true then (zX.l0 k1 t376 false false true ((rd_T36 t376 x9_1).f1) (wrap64 (x9_1 + 1))) else (zX.l0 k1 t376 false false true false (wrap64 (x9_1 + 1)))) = some (r1, r2) := by rw [if_neg (show ¬ (false = true) by decide)] at H; exact H
           clear H
           have H := H1
           clear H1
           have H1 : (zX.l0 k1 t376 false false true ((rd_T36 t376 x9_1).f1) (wrap64 (x9_1 + 1))) = some (r1, r2) := by rw [if_pos rfl] at H; exact H
           clear H
           have H := H1
           clear H1
           have H' := zB.mk H
           clear H
           obtain ⟨Ao140, co140, eo140⟩ := Kd.R_slice HO_4.out
           subst eo140
           have p379 : 0 ≤ (x9_1 : Int) := of_decide_eq_true (by first | (with_reducible assumption) | assumption)
           have q379 : x9_1 < (t376.length : Int) := of_decide_eq_true (by first | (with_reducible assumption) | assumption)
           obtain ⟨ad379, e379, hx379_0, hx379_1, hx379_2⟩ := at_T36 (Kd.R_reads' HO_4.out).2.2 x9_1 p379 q379
           (try rw [← Nbq112.out] at hx379_0)
           (try rw [← Nbq112.out] at hx379_1)
           cases e379
           replace p379 := eq_true p379
           replace q379 := eq_true q379
           go_wp2_with (first | ((with_reducible refine zP (N := 10) rfl ?_); refine zO ?hg (N := 10) ?hd (cs := #[.bool false, .bool false, .int .i64 0]) (t := 36) ?hr ?_; (case hd => rfl); (case hg => rfl); (case hr => first | (go_simp; done) | (go_simp; rfl)); intro gb380 hg w141 hbox hb; have n0_ := zB.mk (Kd.R_below (Kd.R_elderB (by (with_reducible repeat (first | apply Kd.R_alloc | apply Kd.R_drewN | apply Kd.R_drew)); exact HO_4.out) gb380 (Nat.le_of_eq hg.symm)) hb); have n1_ := zB.mk (zN (g := gb374) (o := .cells #[.int .i64 a0_0, .int .i64 a0_1, .slice A0_2 l0_2.length c0_2] 28 (0, 0)) (by (with_reducible repeat (first | refine zC ?_ _ | refine zG ?_ | refine zD ?_ _)); exact BK374.out) hb); have n2_ := zB.mk (zK (by repeat (first | (with_reducible first | exact HB.out | apply zF | apply zA | apply zE | refine zH ?_ GE374.out) | exact HB.out)) hb); have n3_ := zB.mk (hbox); have n4_ := zB.mk ((by rw [hg]; exact (zM (by repeat (first | (with_reducible first | exact HB.out | apply zF | apply zA | apply zE | refine zH ?_ GE374.out) | exact HB.out))) : w.heap.size ≤ gb380)); have n5_ := n4_; have n6_ := zB.mk ((by rw [hg]; exact Nat.ne_of_lt (zQ (by (with_reducible repeat (first | refine zC ?_ _ | refine zG ?_ | refine zD ?_ _)); exact BK374.out)) : gb374 ≠ gb380)); have n7_ := zB.mk n6_.out.symm; clear HO_4; clear BK374; clear HB; have HO_4 := n0_; have BK374 := n1_; have HB := n2_; have BK380 := n3_; have GW380 := n4_; have GE380 := n5_; have NB374_380 := n6_; have NB380_374 := n7_; clear n0_ n1_ n2_ n3_ n4_ n5_ n6_ n7_; clear hb hbox hg; have hnb142 := NB380_374.out; have hnc142 := NB374_380.out; have hcz143_0 : w141.cell? ⟨gb380, 0, none⟩ = some (.bool false) := zJ BK380.out 0; have hcz143_1 : w141.cell? ⟨gb380, 1, none⟩ = some (.bool false) := zJ BK380.out 1; have hcz143_2 : w141.cell? ⟨gb380, 2, none⟩ = some (.int .i64 0) := zJ BK380.out 2; have hfz143_0 := zI BK380.out 0; have hfz143_1 := zI BK380.out 1; have hfz143_2 := zI BK380.out 2))
           go_roundg k1
           case measure => have := HK1.out; omega
           case rel => exact ⟨(false), (false), (true), ((rd_T36 t376 x9_1).f1), (wrap64 (x9_1 + 1)), (by first | rfl | (simp; done) | (simp [*]; done)), (by first | rfl | (simp; done) | (simp [*]; done)), (by first | rfl | (simp; done) | (simp [*]; done)), (by first | rfl | (simp; done) | (simp [*]; done)), (by first | rfl | (simp; done) | (simp [*]; done)), H', ⟨by have := HK1.out; omega⟩, ⟨by (with_reducible repeat (first | apply Kd.R_alloc | apply Kd.R_drewN | apply Kd.R_drew)); exact Kd.R_mono (Kd.R_far (p := ⟨gb380, 2, none⟩) (Kd.R_far (p := ⟨gb380, 1, none⟩) (Kd.R_far (p := ⟨gb380, 0, none⟩) (Kd.R_mono HO_4.out (fun k_ hk => (⟨hk, hk.2⟩ : _ ∧ k_ ≠ gb380))) (fun _ hk => hk.2) (.bool true)) (fun _ hk => hk.2) (.bool ((rd_T36 t376 x9_1).f1))) (fun _ hk => hk.2) (.int .i64 ((rd_T36 t376 x9_1).f2))) (fun _ hk => trivial)⟩, ⟨by (with_reducible repeat (first | refine zC ?_ _ | refine zG ?_ | refine zD ?_ _)); refine zL ?_ NB374_380.out _; (with_reducible repeat (first | refine zC ?_ _ | refine zG ?_ | refine zD ?_ _)); refine zL ?_ NB374_380.out _; (with_reducible repeat (first | refine zC ?_ _ | refine zG ?_ | refine zD ?_ _)); refine zL ?_ NB374_380.out _; (with_reducible repeat (first | refine zC ?_ _ | refine zG ?_ | refine zD ?_ _)); exact BK374.out⟩, ⟨by repeat (first | (with_reducible first | exact HB.out | apply zF | apply zA | apply zE | refine zH ?_ GE374.out | refine zH ?_ GE380.out) | exact HB.out)⟩⟩
         ·
          replace c134 := Bool.eq_false_iff.mpr c134
          subst c134
          have H1 : (if true = true then (if x8_1 = true then (zX.l0 k1 t376 false false (!((rd_T36 t376 x9_1).f1)) true (wrap64 (x9_1 + 1))) else (zX.l0 k1 t376 false false (!((rd_T36 t376 x9_1).f1)) ((rd_T36 t376 x9_1).f1) (wrap64 (x9_1 + 1)))) else (if x8_1 = true then (zX.l0 k1 t376 false false false true (wrap64 (x9_1 + 1))) else (zX.l0 k1 t376 false false false false (wrap64 (x9_1 + 1))))) = some (r1, r2) := by rw [if_neg (show ¬ (false = true) by decide)] at H; exact H
          clear H
          have H := H1
          clear H1
          have H1 : (if x8_1 = true then (zX.l0 k1 t376 false false (!((rd_T36 t376 x9_1).f1)) true (wrap64 (x9_1 + 1))) else (zX.l0 k1 t376 false false (!((rd_T36 t376 x9_1).f1)) ((rd_T36 t376 x9_1).f1) (wrap64 (x9_1 + 1)))) = some (r1, r2) := by rw [if_pos rfl] at H; exact H
          clear H
          have H := H1
          clear H1
          by_cases c144 : x8_1 = true
          ·
           subst c144
           have H1 : (zX.l0 k1 t376 false false (!((rd_T36 t376 x9_1).f1)) true (wrap64 (x9_1 + 1))) = some (r1, r2) := by rw [if_pos rfl] at H; exact H
           clear H
           have H := H1
           clear H1
           have H' := zB.mk H
           clear H
           obtain ⟨Ao145, co145, eo145⟩ := Kd.R_slice HO_4.out
           subst eo145
           have p379 : 0 ≤ (x9_1 : Int) := of_decide_eq_true (by first | (with_reducible assumption) | assumption)
           have q379 : x9_1 < (t376.length : Int) := of_decide_eq_true (by first | (with_reducible assumption) | assumption)
           obtain ⟨ad379, e379, hx379_0, hx379_1, hx379_2⟩ := at_T36 (Kd.R_reads' HO_4.out).2.2 x9_1 p379 q379
           (try rw [← Nbq112.out] at hx379_0)
           (try rw [← Nbq112.out] at hx379_1)
           cases e379
           replace p379 := eq_true p379
           replace q379 := eq_true q379
           go_wp2_with (first | ((with_reducible refine zP (N := 10) rfl ?_); refine zO ?hg (N := 10) ?hd (cs := #[.bool false, .bool false, .int .i64 0]) (t := 36) ?hr ?_; (case hd => rfl); (case hg => rfl); (case hr => first | (go_simp; done) | (go_simp; rfl)); intro gb380 hg w146 hbox hb; have n0_ := zB.mk (Kd.R_below (Kd.R_elderB (by (with_reducible repeat (first | apply Kd.R_alloc | apply Kd.R_drewN | apply Kd.R_drew)); exact HO_4.out) gb380 (Nat.le_of_eq hg.symm)) hb); have n1_ := zB.mk (zN (g := gb374) (o := .cells #[.int .i64 a0_0, .int .i64 a0_1, .slice A0_2 l0_2.length c0_2] 28 (0, 0)) (by (with_reducible repeat (first | refine zC ?_ _ | refine zG ?_ | refine zD ?_ _)); exact BK374.out) hb); have n2_ := zB.mk (zK (by repeat (first | (with_reducible first | exact HB.out | apply zF | apply zA | apply zE | refine zH ?_ GE374.out) | exact HB.out)) hb); have n3_ := zB.mk (hbox); have n4_ := zB.mk ((by rw [hg]; exact (zM (by repeat (first | (with_reducible first | exact HB.out | apply zF | apply zA | apply zE | refine zH ?_ GE374.out) | exact HB.out))) : w.heap.size ≤ gb380)); have n5_ := n4_; have n6_ := zB.mk ((by rw [hg]; exact Nat.ne_of_lt (zQ (by (with_reducible repeat (first | refine zC ?_ _ | refine zG ?_ | refine zD ?_ _)); exact BK374.out)) : gb374 ≠ gb380)); have n7_ := zB.mk n6_.out.symm; clear HO_4; clear BK374; clear HB; have HO_4 := n0_; have BK374 := n1_; have HB := n2_; have BK380 := n3_; have GW380 := n4_; have GE380 := n5_; have NB374_380 := n6_; have NB380_374 := n7_; clear n0_ n1_ n2_ n3_ n4_ n5_ n6_ n7_; clear hb hbox hg; have hnb147 := NB380_374.out; have hnc147 := NB374_380.out; have hcz148_0 : w146.cell? ⟨gb380, 0, none⟩ = some (.bool false) := zJ BK380.out 0; have hcz148_1 : w146.cell? ⟨gb380, 1, none⟩ = some (.bool false) := zJ BK380.out 1; have hcz148_2 : w146.cell? ⟨gb380, 2, none⟩ = some (.int .i64 0) := zJ BK380.out 2; have hfz148_0 := zI BK380.out 0; have hfz148_1 := zI BK380.out 1; have hfz148_2 := zI BK380.out 2))
           go_roundg k1
           case measure => have := HK1.out; omega
           case rel => exact ⟨(false), (false), (!((rd_T36 t376 x9_1).f1)), (true), (wrap64 (x9_1 + 1)), (by first | rfl | (simp; done) | (simp [*]; done)), (by first | rfl | (simp; done) | (simp [*]; done)), (by first | rfl | (simp; done) | (simp [*]; done)), (by first | rfl | (simp; done) | (simp [*]; done)), (by first | rfl | (simp; done) | (simp [*]; done)), H', ⟨by have := HK1.out; omega⟩, ⟨by (with_reducible repeat (first | apply Kd.R_alloc | apply Kd.R_drewN | apply Kd.R_drew)); exact Kd.R_mono (Kd.R_far (p := ⟨gb380, 2, none⟩) (Kd.R_far (p := ⟨gb380, 1, none⟩) (Kd.R_far (p := ⟨gb380, 0, none⟩) (Kd.R_mono HO_4.out (fun k_ hk => (⟨hk, hk.2⟩ : _ ∧ k_ ≠ gb380))) (fun _ hk => hk.2) (.bool true)) (fun _ hk => hk.2) (.bool ((rd_T36 t376 x9_1).f1))) (fun _ hk => hk.2) (.int .i64 ((rd_T36 t376 x9_1).f2))) (fun _ hk => trivial)⟩, ⟨by (with_reducible repeat (first | refine zC ?_ _ | refine zG ?_ | refine zD ?_ _)); refine zL ?_ NB374_380.out _; (with_reducible repeat (first | refine zC ?_ _ | refine zG ?_ | refine zD ?_ _)); refine zL ?_ NB374_380.out _; (with_reducible repeat (first | refine zC ?_ _ | refine zG ?_ | refine zD ?_ _)); refine zL ?_ NB374_380.out _; (with_reducible repeat (first | refine zC ?_ _ | refine zG ?_ | refine zD ?_ _)); exact BK374.out⟩, ⟨by repeat (first | (with_reducible first | exact HB.out | apply zF | apply zA | apply zE | refine zH ?_ GE374.out | refine zH ?_ GE380.out) | exact HB.out)⟩⟩
          ·
           replace c144 := Bool.eq_false_iff.mpr c144
           subst c144
           have H1 : (zX.l0 k1 t376 false false (!((rd_T36 t376 x9_1).f1)) ((rd_T36 t376 x9_1).f1) (wrap64 (x9_1 + 1))) = some (r1, r2) := by rw [if_neg (show ¬ (false = true) by decide)] at H; exact H
           clear H
           have H := H1
           clear H1
           have H' := zB.mk H
           clear H
           obtain ⟨Ao149, co149, eo149⟩ := Kd.R_slice HO_4.out
           subst eo149
           have p379 : 0 ≤ (x9_1 : Int) := of_decide_eq_true (by first | (with_reducible assumption) | assumption)
           have q379 : x9_1 < (t376.length : Int) := of_decide_eq_true (by first | (with_reducible assumption) | assumption)
           obtain ⟨ad379, e379, hx379_0, hx379_1, hx379_2⟩ := at_T36 (Kd.R_reads' HO_4.out).2.2 x9_1 p379 q379
           (try rw [← Nbq112.out] at hx379_0)
           (try rw [← Nbq112.out] at hx379_1)
           cases e379
           replace p379 := eq_true p379
           replace q379 := eq_true q379
           go_wp2_with (first | ((with_reducible refine zP (N := 10) rfl ?_); refine zO ?hg (N := 10) ?hd (cs := #[.bool false, .bool false, .int .i64 0]) (t := 36) ?hr ?_; (case hd => rfl); (case hg => rfl); (case hr => first | (go_simp; done) | (go_simp; rfl)); intro gb380 hg w150 hbox hb; have n0_ := zB.mk (Kd.R_below (Kd.R_elderB (by (with_reducible repeat (first | apply Kd.R_alloc | apply Kd.R_drewN | apply Kd.R_drew)); exact HO_4.out) gb380 (Nat.le_of_eq hg.symm)) hb); have n1_ := zB.mk (zN (g := gb374) (o := .cells #[.int .i64 a0_0, .int .i64 a0_1, .slice A0_2 l0_2.length c0_2] 28 (0, 0)) (by (with_reducible repeat (first | refine zC ?_ _ | refine zG ?_ | refine zD ?_ _)); exact BK374.out) hb); have n2_ := zB.mk (zK (by repeat (first | (with_reducible first | exact HB.out | apply zF | apply zA | apply zE | refine zH ?_ GE374.out) | exact HB.out)) hb); have n3_ := zB.mk (hbox); have n4_ := zB.mk ((by rw [hg]; exact (zM (by repeat (first | (with_reducible first | exact HB.out | apply zF | apply zA | apply zE | refine zH ?_ GE374.out) | exact HB.out))) : w.heap.size ≤ gb380)); have n5_ := n4_; have n6_ := zB.mk ((by rw [hg]; exact Nat.ne_of_lt (zQ (by (with_reducible repeat (first | refine zC ?_ _ | refine zG ?_ | refine zD ?_ _)); exact BK374.out)) : gb374 ≠ gb380)); have n7_ := zB.mk n6_.out.symm; clear HO_4; clear BK374; clear HB; have HO_4 := n0_; have BK374 := n1_; have HB := n2_; have BK380 := n3_; have GW380 := n4_; have GE380 := n5_; have NB374_380 := n6_; have NB380_374 := n7_; clear n0_ n1_ n2_ n3_ n4_ n5_ n6_ n7_; clear hb hbox hg; have hnb151 := NB380_374.out; have hnc151 := NB374_380.out; have hcz152_0 : w150.cell? ⟨gb380, 0, none⟩ = some (.bool false) := zJ BK380.out 0; have hcz152_1 : w150.cell? ⟨gb380, 1, none⟩ = some (.bool false) := zJ BK380.out 1; have hcz152_2 : w150.cell? ⟨gb380, 2, none⟩ = some (.int .i64 0) := zJ BK380.out 2; have hfz152_0 := zI BK380.out 0; have hfz152_1 := zI BK380.out 1; have hfz152_2 := zI BK380.out 2))
           go_roundg k1
           case measure => have := HK1.out; omega
           case rel => exact ⟨(false), (false), (!((rd_T36 t376 x9_1).f1)), ((rd_T36 t376 x9_1).f1), (wrap64 (x9_1 + 1)), (by first | rfl | (simp; done) | (simp [*]; done)), (by first | rfl | (simp; done) | (simp [*]; done)), (by first | rfl | (simp; done) | (simp [*]; done)), (by first | rfl | (simp; done) | (simp [*]; done)), (by first | rfl | (simp; done) | (simp [*]; done)), H', ⟨by have := HK1.out; omega⟩, ⟨by (with_reducible repeat (first | apply Kd.R_alloc | apply Kd.R_drewN | apply Kd.R_drew)); exact Kd.R_mono (Kd.R_far (p := ⟨gb380, 2, none⟩) (Kd.R_far (p := ⟨gb380, 1, none⟩) (Kd.R_far (p := ⟨gb380, 0, none⟩) (Kd.R_mono HO_4.out (fun k_ hk => (⟨hk, hk.2⟩ : _ ∧ k_ ≠ gb380))) (fun _ hk => hk.2) (.bool true)) (fun _ hk => hk.2) (.bool ((rd_T36 t376 x9_1).f1))) (fun _ hk => hk.2) (.int .i64 ((rd_T36 t376 x9_1).f2))) (fun _ hk => trivial)⟩, ⟨by (with_reducible repeat (first | refine zC ?_ _ | refine zG ?_ | refine zD ?_ _)); refine zL ?_ NB374_380.out _; (with_reducible repeat (first | refine zC ?_ _ | refine zG ?_ | refine zD ?_ _)); refine zL ?_ NB374_380.out _; (with_reducible repeat (first | refine zC ?_ _ | refine zG ?_ | refine zD ?_ _)); refine zL ?_ NB374_380.out _; (with_reducible repeat (first | refine zC ?_ _ | refine zG ?_ | refine zD ?_ _)); exact BK374.out⟩, ⟨by repeat (first | (with_reducible first | exact HB.out | apply zF | apply zA | apply zE | refine zH ?_ GE374.out | refine zH ?_ GE380.out) | exact HB.out)⟩⟩
       ·
        replace c113 := Bool.eq_false_iff.mpr c113
        subst c113
        have H1 : (if (rd_T36 t376 x9_1).f1 = true then (if x6_1 = true then (if x7_1 = true then (if x8_1 = true then (zX.l0 k1 t376 (((rd_T36 t376 x9_1).f2) == 0) true true true (wrap64 (x9_1 + 1))) else (if false = true then (zX.l0 k1 t376 (((rd_T36 t376 x9_1).f2) == 0) true true ((rd_T36 t376 x9_1).f1) (wrap64 (x9_1 + 1))) else (zX.l0 k1 t376 (((rd_T36 t376 x9_1).f2) == 0) true true false (wrap64 (x9_1 + 1))))) else (if false = true then (if x8_1 = true then (zX.l0 k1 t376 (((rd_T36 t376 x9_1).f2) == 0) true (!((rd_T36 t376 x9_1).f1)) true (wrap64 (x9_1 + 1))) else (zX.l0 k1 t376 (((rd_T36 t376 x9_1).f2) == 0) true (!((rd_T36 t376 x9_1).f1)) ((rd_T36 t376 x9_1).f1) (wrap64 (x9_1 + 1)))) else (if x8_1 = true then (zX.l0 k1 t376 (((rd_T36 t376 x9_1).f2) == 0) true false true (wrap64 (x9_1 + 1))) else (zX.l0 k1 t376 (((rd_T36 t376 x9_1).f2) == 0) true false false (wrap64 (x9_1 + 1)))))) else (if x7_1 = true then (if x8_1 = true then (zX.l0 k1 t376 (((rd_T36 t376 x9_1).f2) == 0) (((rd_T36 t376 x9_1).f2) != 0) true true (wrap64 (x9_1 + 1))) else (if false = true then (zX.l0 k1 t376 (((rd_T36 t376 x9_1).f2) == 0) (((rd_T36 t376 x9_1).f2) != 0) true ((rd_T36 t376 x9_1).f1) (wrap64 (x9_1 + 1))) else (zX.l0 k1 t376 (((rd_T36 t376 x9_1).f2) == 0) (((rd_T36 t376 x9_1).f2) != 0) true false (wrap64 (x9_1 + 1))))) else (if false = true then (if x8_1 = true then (zX.l0 k1 t376 (((rd_T36 t376 x9_1).f2) == 0) (((rd_T36 t376 x9_1).f2) != 0) (!((rd_T36 t376 x9_1).f1)) true (wrap64 (x9_1 + 1))) else (zX.l0 k1 t376 (((rd_T36 t376 x9_1).f2) == 0) (((rd_T36 t376 x9_1).f2) != 0) (!((rd_T36 t376 x9_1).f1)) ((rd_T36 t376 x9_1).f1) (wrap64 (x9_1 + 1)))) else (if x8_1 = true then (zX.l0 k1 t376 (((rd_T36 t376 x9_1).f2) == 0) (((rd_T36 t376 x9_1).f2) != 0) false true (wrap64 (x9_1 + 1))) else (zX.l0 k1 t376 (((rd_T36 t376 x9_1).f2) == 0) (((rd_T36 t376 x9_1).f2) != 0) false false (wrap64 (x9_1 + 1))))))) else (if x6_1 = true then (if x7_1 = true then (if x8_1 = true then (zX.l0 k1 t376 false true true true (wrap64 (x9_1 + 1))) else (if false = true then (zX.l0 k1 t376 false true true ((rd_T36 t376 x9_1).f1) (wrap64 (x9_1 + 1))) else (zX.l0 k1 t376 false true true false (wrap64 (x9_1 + 1))))) else (if false = true then (if x8_1 = true then (zX.l0 k1 t376 false true (!((rd_T36 t376 x9_1).f1)) true (wrap64 (x9_1 + 1))) else (zX.l0 k1 t376 false true (!((rd_T36 t376 x9_1).f1)) ((rd_T36 t376 x9_1).f1) (wrap64 (x9_1 + 1)))) else (if x8_1 = true then (zX.l0 k1 t376 false true false true (wrap64 (x9_1 + 1))) else (zX.l0 k1 t376 false true false false (wrap64 (x9_1 + 1)))))) else (if x7_1 = true then (if x8_1 = true then (zX.l0 k1 t376 false false true true (wrap64 (x9_1 + 1))) else (if false = true then (zX.l0 k1 t376 false false true ((rd_T36 t376 x9_1).f1) (wrap64 (x9_1 + 1))) else (zX.l0 k1 t376 false false true false (wrap64 (x9_1 + 1))))) else (if false = true then (if x8_1 = true then (zX.l0 k1 t376 false false (!((rd_T36 t376 x9_1).f1)) true (wrap64 (x9_1 + 1))) else (zX.l0 k1 t376 false false (!((rd_T36 t376 x9_1).f1)) ((rd_T36 t376 x9_1).f1) (wrap64 (x9_1 + 1)))) else (if x8_1 = true then (zX.l0 k1 t376 false false false true (wrap64 (x9_1 + 1))) else (zX.l0 k1 t376 false false false false (wrap64 (x9_1 + 1)))))))) = some (r1, r2) := by rw [if_neg (show ¬ (false = true) by decide)] at H; exact H
        clear H
        have H := H1
        clear H1
        obtain ⟨bq153, hbq153⟩ : ∃ b_ : Bool, b_ = ((rd_T36 t376 x9_1).f1) := ⟨_, rfl⟩
        replace H : (if bq153 = true then (if x6_1 = true then (if x7_1 = true then (if x8_1 = true then (zX.l0 k1 t376 (((rd_T36 t376 x9_1).f2) == 0) true true true (wrap64 (x9_1 + 1))) else (if false = true then (zX.l0 k1 t376 (((rd_T36 t376 x9_1).f2) == 0) true true bq153 (wrap64 (x9_1 + 1))) else (zX.l0 k1 t376 (((rd_T36 t376 x9_1).f2) == 0) true true false (wrap64 (x9_1 + 1))))) else (if false = true then (if x8_1 = true then (zX.l0 k1 t376 (((rd_T36 t376 x9_1).f2) == 0) true (!(bq153)) true (wrap64 (x9_1 + 1))) else (zX.l0 k1 t376 (((rd_T36 t376 x9_1).f2) == 0) true (!(bq153)) bq153 (wrap64 (x9_1 + 1)))) else (if x8_1 = true then (zX.l0 k1 t376 (((rd_T36 t376 x9_1).f2) == 0) true false true (wrap64 (x9_1 + 1))) else (zX.l0 k1 t376 (((rd_T36 t376 x9_1).f2) == 0) true false false (wrap64 (x9_1 + 1)))))) else (if x7_1 = true then (if x8_1 = true then (zX.l0 k1 t376 (((rd_T36 t376 x9_1).f2) == 0) (((rd_T36 t376 x9_1).f2) != 0) true true (wrap64 (x9_1 + 1))) else (if false = true then (zX.l0 k1 t376 (((rd_T36 t376 x9_1).f2) == 0) (((rd_T36 t376 x9_1).f2) != 0) true bq153 (wrap64 (x9_1 + 1))) else (zX.l0 k1 t376 (((rd_T36 t376 x9_1).f2) == 0) (((rd_T36 t376 x9_1).f2) != 0) true false (wrap64 (x9_1 + 1))))) else (if false = true then (if x8_1 = true then (zX.l0 k1 t376 (((rd_T36 t376 x9_1).f2) == 0) (((rd_T36 t376 x9_1).f2) != 0) (!(bq153)) true (wrap64 (x9_1 + 1))) else (zX.l0 k1 t376 (((rd_T36 t376 x9_1).f2) == 0) (((rd_T36 t376 x9_1).f2) != 0) (!(bq153)) bq153 (wrap64 (x9_1 + 1)))) else (if x8_1 = true then (zX.l0 k1 t376 (((rd_T36 t376 x9_1).f2) == 0) (((rd_T36 t376 x9_1).f2) != 0) false true (wrap64 (x9_1 + 1))) else (zX.l0 k1 t376 (((rd_T36 t376 x9_1).f2) == 0) (((rd_T36 t376 x9_1).f2) != 0) false false (wrap64 (x9_1 + 1))))))) else (if x6_1 = true then (if x7_1 = true then (if x8_1 = true then (zX.l0 k1 t376 false true true true (wrap64 (x9_1 + 1))) else (if false = true then (zX.l0 k1 t376 false true true bq153 (wrap64 (x9_1 + 1))) else (zX.l0 k1 t376 false true true false (wrap64 (x9_1 + 1))))) else (if false = true then (if x8_1 = true then (zX.l0 k1 t376 false true (!(bq153)) true (wrap64 (x9_1 + 1))) else (zX.l0 k1 t376 false true (!(bq153)) bq153 (wrap64 (x9_1 + 1)))) else (if x8_1 = true then (zX.l0 k1 t376 false true false true (wrap64 (x9_1 + 1))) else (zX.l0 k1 t376 false true false false (wrap64 (x9_1 + 1)))))) else (if x7_1 = true then (if x8_1 = true then (zX.l0 k1 t376 false false true true (wrap64 (x9_1 + 1))) else (if false = true then (zX.l0 k1 t376 false false true bq153 (wrap64 (x9_1 + 1))) else (zX.l0 k1 t376 false false true false (wrap64 (x9_1 + 1))))) else (if false = true then (if x8_1 = true then (zX.l0 k1 t376 false false (!(bq153)) true (wrap64 (x9_1 + 1))) else (zX.l0 k1 t376 false false (!(bq153)) bq153 (wrap64 (x9_1 + 1)))) else (if x8_1 = true then (zX.l0 k1 t376 false false false true (wrap64 (x9_1 + 1))) else (zX.l0 k1 t376 false false false false (wrap64 (x9_1 + 1)))))))) = some (r1, r2) := by rw [← hbq153] at H; exact H
        have Nbq153 := zB.mk hbq153
        clear hbq153
        by_cases c154 : bq153 = true
        ·
         subst c154
         have H1 : (if x6_1 = true then (if x7_1 = true then (if x8_1 = true then (zX.l0 k1 t376 (((rd_T36 t376 x9_1).f2) == 0) true true true (wrap64 (x9_1 + 1))) else (if false = true then (zX.l0 k1 t376 (((rd_T36 t376 x9_1).f2) == 0) true true true (wrap64 (x9_1 + 1))) else (zX.l0 k1 t376 (((rd_T36 t376 x9_1).f2) == 0) true true false (wrap64 (x9_1 + 1))))) else (if false = true then (if x8_1 = true then (zX.l0 k1 t376 (((rd_T36 t376 x9_1).f2) == 0) true (!(true)) true (wrap64 (x9_1 + 1))) else (zX.l0 k1 t376 (((rd_T36 t376 x9_1).f2) == 0) true (!(true)) true (wrap64 (x9_1 + 1)))) else (if x8_1 = true then (zX.l0 k1 t376 (((rd_T36 t376 x9_1).f2) == 0) true false true (wrap64 (x9_1 + 1))) else (zX.l0 k1 t376 (((rd_T36 t376 x9_1).f2) == 0) true false false (wrap64 (x9_1 + 1)))))) else (if x7_1 = true then (if x8_1 = true then (zX.l0 k1 t376 (((rd_T36 t376 x9_1).f2) == 0) (((rd_T36 t376 x9_1).f2) != 0) true true (wrap64 (x9_1 + 1))) else (if false = true then (zX.l0 k1 t376 (((rd_T36 t376 x9_1).f2) == 0) (((rd_T36 t376 x9_1).f2) != 0) true true (wrap64 (x9_1 + 1))) else (zX.l0 k1 t376 (((rd_T36 t376 x9_1).f2) == 0) (((rd_T36 t376 x9_1).f2) != 0) true false (wrap64 (x9_1 + 1))))) else (if false = true then (if x8_1 = true then (zX.l0 k1 t376 (((rd_T36 t376 x9_1).f2) == 0) (((rd_T36 t376 x9_1).f2) != 0) (!(true)) true (wrap64 (x9_1 + 1))) else (zX.l0 k1 t376 (((rd_T36 t376 x9_1).f2) == 0) (((rd_T36 t376 x9_1).f2) != 0) (!(true)) true (wrap64 (x9_1 + 1)))) else (if x8_1 = true then (zX.l0 k1 t376 (((rd_T36 t376 x9_1).f2) == 0) (((rd_T36 t376 x9_1).f2) != 0) false true (wrap64 (x9_1 + 1))) else (zX.l0 k1 t376 (((rd_T36 t376 x9_1).f2) == 0) (((rd_T36 t376 x9_1).f2) != 0) false false (wrap64 (x9_1 + 1))))))) = some (r1, r2) := by rw [if_pos rfl] at H; exact H
         clear H
         have H := H1
         clear H1
         by_cases c155 : x6_1 = true
         ·
          subst c155
          have H1 : (if x7_1 = true then (if x8_1 = true then (zX.l0 k1 t376 (((rd_T36 t376 x9_1).f2) == 0) true true true (wrap64 (x9_1 + 1))) else (if false = true then (zX.l0 k1 t376 (((rd_T36 t376 x9_1).f2) == 0) true true true (wrap64 (x9_1 + 1))) else (zX.l0 k1 t376 (((rd_T36 t376 x9_1).f2) == 0) true true false (wrap64 (x9_1 + 1))))) else (if false = true then (if x8_1 = true then (zX.l0 k1 t376 (((rd_T36 t376 x9_1).f2) == 0) true (!(true)) true (wrap64 (x9_1 + 1))) else (zX.l0 k1 t376 (((rd_T36 t376 x9_1).f2) == 0) true (!(true)) true (wrap64 (x9_1 + 1)))) else (if x8_1 = true then (zX.l0 k1 t376 (((rd_T36 t376 x9_1).f2) == 0) true false true (wrap64 (x9_1 + 1))) else (zX.l0 k1 t376 (((rd_T36 t376 x9_1).f2) == 0) true false false (wrap64 (x9_1 + 1)))))) = some (r1, r2) := by rw [if_pos rfl] at H; exact H
          clear H
          have H := H1
          clear H1
          by_cases c156 : x7_1 = true
          ·
           subst c156
           have H1 : (if x8_1 = true then (zX.l0 k1 t376 (((rd_T36 t376 x9_1).f2) == 0) true true true (wrap64 (x9_1 + 1))) else (if false = true then (zX.l0 k1 t376 (((rd_T36 t376 x9_1).f2) == 0) true true true (wrap64 (x9_1 + 1))) else (zX.l0 k1 t376 (((rd_T36 t376 x9_1).f2) == 0) true true false (wrap64 (x9_1 + 1))))) = some (r1, r2) := by rw [if_pos rfl] at H; exact H
           clear H
           have H := H1
           clear H1
           by_cases c157 : x8_1 = true
           ·
            subst c157
            have H1 : (zX.l0 k1 t376 (((rd_T36 t376 x9_1).f2) == 0) true true true (wrap64 (x9_1 + 1))) = some (r1, r2) := by rw [if_pos rfl] at H; exact H
            clear H
            have H := H1
            clear H1
            have H' := zB.mk H
            clear H
            obtain ⟨Ao158, co158, eo158⟩ := Kd.R_slice HO_4.out
            subst eo158
            have p379 : 0 ≤ (x9_1 : Int) := of_decide_eq_true (by first | (with_reducible assumption) | assumption)
            have q379 : x9_1 < (t376.length : Int) := of_decide_eq_true (by first | (with_reducible assumption) | assumption)
            obtain ⟨ad379, e379, hx379_0, hx379_1, hx379_2⟩ := at_T36 (Kd.R_reads' HO_4.out).2.2 x9_1 p379 q379
            (try rw [← Nbq112.out] at hx379_0)
            (try rw [← Nbq153.out] at hx379_0)
            (try rw [← Nbq112.out] at hx379_1)
            (try rw [← Nbq153.out] at hx379_1)
            cases e379
            replace p379 := eq_true p379
            replace q379 := eq_true q379
            go_wp2_with (first | ((with_reducible refine zP (N := 10) rfl ?_); refine zO ?hg (N := 10) ?hd (cs := #[.bool false, .bool false, .int .i64 0]) (t := 36) ?hr ?_; (case hd => rfl); (case hg => rfl); (case hr => first | (go_simp; done) | (go_simp; rfl)); intro gb380 hg w159 hbox hb; have n0_ := zB.mk (Kd.R_below (Kd.R_elderB (by (with_reducible repeat (first | apply Kd.R_alloc | apply Kd.R_drewN | apply Kd.R_drew)); exact HO_4.out) gb380 (Nat.le_of_eq hg.symm)) hb); have n1_ := zB.mk (zN (g := gb374) (o := .cells #[.int .i64 a0_0, .int .i64 a0_1, .slice A0_2 l0_2.length c0_2] 28 (0, 0)) (by (with_reducible repeat (first | refine zC ?_ _ | refine zG ?_ | refine zD ?_ _)); exact BK374.out) hb); have n2_ := zB.mk (zK (by repeat (first | (with_reducible first | exact HB.out | apply zF | apply zA | apply zE | refine zH ?_ GE374.out) | exact HB.out)) hb); have n3_ := zB.mk (hbox); have n4_ := zB.mk ((by rw [hg]; exact (zM (by repeat (first | (with_reducible first | exact HB.out | apply zF | apply zA | apply zE | refine zH ?_ GE374.out) | exact HB.out))) : w.heap.size ≤ gb380)); have n5_ := n4_; have n6_ := zB.mk ((by rw [hg]; exact Nat.ne_of_lt (zQ (by (with_reducible repeat (first | refine zC ?_ _ | refine zG ?_ | refine zD ?_ _)); exact BK374.out)) : gb374 ≠ gb380)); have n7_ := zB.mk n6_.out.symm; clear HO_4; clear BK374; clear HB; have HO_4 := n0_; have BK374 := n1_; have HB := n2_; have BK380 := n3_; have GW380 := n4_; have GE380 := n5_; have NB374_380 := n6_; have NB380_374 := n7_; clear n0_ n1_ n2_ n3_ n4_ n5_ n6_ n7_; clear hb hbox hg; have hnb160 := NB380_374.out; have hnc160 := NB374_380.out; have hcz161_0 : w159.cell? ⟨gb380, 0, none⟩ = some (.bool false) := zJ BK380.out 0; have hcz161_1 : w159.cell? ⟨gb380, 1, none⟩ = some (.bool false) := zJ BK380.out 1; have hcz161_2 : w159.cell? ⟨gb380, 2, none⟩ = some (.int .i64 0) := zJ BK380.out 2; have hfz161_0 := zI BK380.out 0; have hfz161_1 := zI BK380.out 1; have hfz161_2 := zI BK380.out 2))
            go_roundg k1
            case measure => have := HK1.out; omega
            case rel => exact ⟨((((rd_T36 t376 x9_1).f2) == 0)), (true), (true), (true), (wrap64 (x9_1 + 1)), (by first | rfl | (simp; done) | (simp [*]; done)), (by first | rfl | (simp; done) | (simp [*]; done)), (by first | rfl | (simp; done) | (simp [*]; done)), (by first | rfl | (simp; done) | (simp [*]; done)), (by first | rfl | (simp; done) | (simp [*]; done)), H', ⟨by have := HK1.out; omega⟩, ⟨by (with_reducible repeat (first | apply Kd.R_alloc | apply Kd.R_drewN | apply Kd.R_drew)); exact Kd.R_mono (Kd.R_far (p := ⟨gb380, 2, none⟩) (Kd.R_far (p := ⟨gb380, 1, none⟩) (Kd.R_far (p := ⟨gb380, 0, none⟩) (Kd.R_mono HO_4.out (fun k_ hk => (⟨hk, hk.2⟩ : _ ∧ k_ ≠ gb380))) (fun _ hk => hk.2) (.bool false)) (fun _ hk => hk.2) (.bool true)) (fun _ hk => hk.2) (.int .i64 ((rd_T36 t376 x9_1).f2))) (fun _ hk => trivial)⟩, ⟨by (with_reducible repeat (first | refine zC ?_ _ | refine zG ?_ | refine zD ?_ _)); refine zL ?_ NB374_380.out _; (with_reducible repeat (first | refine zC ?_ _ | refine zG ?_ | refine zD ?_ _)); refine zL ?_ NB374_380.out _; (with_reducible repeat (first | refine zC ?_ _ | refine zG ?_ | refine zD ?_ _)); refine zL ?_ NB374_380.out _; (with_reducible repeat (first | refine zC ?_ _ | refine zG ?_ | refine zD ?_ _)); exact BK374.out⟩, ⟨by repeat (first | (with_reducible first | exact HB.out | apply zF | apply zA | apply zE | refine zH ?_ GE374.out | refine zH ?_ GE380.out) | exact HB.out)⟩⟩
           ·
            replace c157 := Bool.eq_false_iff.mpr c157
            subst c157
            have H1 : (if false = true then (zX.l0 k1 t376 (((rd_T36 t376 x9_1).f2) == 0) true true true (wrap64 (x9_1 + 1))) else (zX.l0 k1 t376 (((rd_T36 t376 x9_1).f2) == 0) true true false (wrap64 (x9_1 + 1)))) = some (r1, r2) := by rw [if_neg (show ¬ (false = true) by decide)] at H; exact H
            clear H
            have H := H1
            clear H1
            have H1 : (zX.l0 k1 t376 (((rd_T36 t376 x9_1).f2) == 0) true true false (wrap64 (x9_1 + 1))) = some (r1, r2) := by rw [if_neg (show ¬ (false = true) by decide)] at H; exact H
            clear H
            have H := H1
            clear H1
            have H' := zB.mk H
            clear H
            obtain ⟨Ao162, co162, eo162⟩ := Kd.R_slice HO_4.out
            subst eo162
            have p379 : 0 ≤ (x9_1 : Int) := of_decide_eq_true (by first | (with_reducible assumption) | assumption)
            have q379 : x9_1 < (t376.length : Int) := of_decide_eq_true (by first | (with_reducible assumption) | assumption)
            obtain ⟨ad379, e379, hx379_0, hx379_1, hx379_2⟩ := at_T36 (Kd.R_reads' HO_4.out).2.2 x9_1 p379 q379
            (try rw [← Nbq112.out] at hx379_0)
            (try rw [← Nbq153.out] at hx379_0)
            (try rw [← Nbq112.out] at hx379_1)
            (try rw [← Nbq153.out] at hx379_1)
            cases e379
            replace p379 := eq_true p379
            replace q379 := eq_true q379
            go_wp2_with (first | ((with_reducible refine zP (N := 10) rfl ?_); refine zO ?hg (N := 10) ?hd (cs := #[.bool false, .bool false, .int .i64 0]) (t := 36) ?hr ?_; (case hd => rfl); (case hg => rfl); (case hr => first | (go_simp; done) | (go_simp; rfl)); intro gb380 hg w163 hbox hb; have n0_ := zB.mk (Kd.R_below (Kd.R_elderB (by (with_reducible repeat (first | apply Kd.R_alloc | apply Kd.R_drewN | apply Kd.R_drew)); exact HO_4.out) gb380 (Nat.le_of_eq hg.symm)) hb); have n1_ := zB.mk (zN (g := gb374) (o := .cells #[.int .i64 a0_0, .int .i64 a0_1, .slice A0_2 l0_2.length c0_2] 28 (0, 0)) (by (with_reducible repeat (first | refine zC ?_ _ | refine zG ?_ | refine zD ?_ _)); exact BK374.out) hb); have n2_ := zB.mk (zK (by repeat (first | (with_reducible first | exact HB.out | apply zF | apply zA | apply zE | refine zH ?_ GE374.out) | exact HB.out)) hb); have n3_ := zB.mk (hbox); have n4_ := zB.mk ((by rw [hg]; exact (zM (by repeat (first | (with_reducible first | exact HB.out | apply zF | apply zA | apply zE | refine zH ?_ GE374.out) | exact HB.out))) : w.heap.size ≤ gb380)); have n5_ := n4_; have n6_ := zB.mk ((by rw [hg]; exact Nat.ne_of_lt (zQ (by (with_reducible repeat (first | refine zC ?_ _ | refine zG ?_ | refine zD ?_ _)); exact BK374.out)) : gb374 ≠ gb380)); have n7_ := zB.mk n6_.out.symm; clear HO_4; clear BK374; clear HB; have HO_4 := n0_; have BK374 := n1_; have HB := n2_; have BK380 := n3_; have GW380 := n4_; have GE380 := n5_; have NB374_380 := n6_; have NB380_374 := n7_; clear n0_ n1_ n2_ n3_ n4_ n5_ n6_ n7_; clear hb hbox hg; have hnb164 := NB380_374.out; have hnc164 := NB374_380.out; have hcz165_0 : w163.cell? ⟨gb380, 0, none⟩ = some (.bool false) := zJ BK380.out 0; have hcz165_1 : w163.cell? ⟨gb380, 1, none⟩ = some (.bool false) := zJ BK380.out 1; have hcz165_2 : w163.cell? ⟨gb380, 2, none⟩ = some (.int .i64 0) := zJ BK380.out 2; have hfz165_0 := zI BK380.out 0; have hfz165_1 := zI BK380.out 1; have hfz165_2 := zI BK380.out 2))
            go_roundg k1
            case measure => have := HK1.out; omega
            case rel => exact ⟨((((rd_T36 t376 x9_1).f2) == 0)), (true), (true), (false), (wrap64 (x9_1 + 1)), (by first | rfl | (simp; done) | (simp [*]; done)), (by first | rfl | (simp; done) | (simp [*]; done)), (by first | rfl | (simp; done) | (simp [*]; done)), (by first | rfl | (simp; done) | (simp [*]; done)), (by first | rfl | (simp; done) | (simp [*]; done)), H', ⟨by have := HK1.out; omega⟩, ⟨by (with_reducible repeat (first | apply Kd.R_alloc | apply Kd.R_drewN | apply Kd.R_drew)); exact Kd.R_mono (Kd.R_far (p := ⟨gb380, 2, none⟩) (Kd.R_far (p := ⟨gb380, 1, none⟩) (Kd.R_far (p := ⟨gb380, 0, none⟩) (Kd.R_mono HO_4.out (fun k_ hk => (⟨hk, hk.2⟩ : _ ∧ k_ ≠ gb380))) (fun _ hk => hk.2) (.bool false)) (fun _ hk => hk.2) (.bool true)) (fun _ hk => hk.2) (.int .i64 ((rd_T36 t376 x9_1).f2))) (fun _ hk => trivial)⟩, ⟨by (with_reducible repeat (first | refine zC ?_ _ | refine zG ?_ | refine zD ?_ _)); refine zL ?_ NB374_380.out _; (with_reducible repeat (first | refine zC ?_ _ | refine zG ?_ | refine zD ?_ _)); refine zL ?_ NB374_380.out _; (with_reducible repeat (first | refine zC ?_ _ | refine zG ?_ | refine zD ?_ _)); refine zL ?_ NB374_380.out _; (with_reducible repeat (first | refine zC ?_ _ | refine zG ?_ | refine zD ?_ _)); exact BK374.out⟩, ⟨by repeat (first | (with_reducible first | exact HB.out | apply zF | apply zA | apply zE | refine zH ?_ GE374.out | refine zH ?_ GE380.out) | exact HB.out)⟩⟩
          ·
           replace c156 := Bool.eq_false_iff.mpr c156
           subst c156
           have H1 : (if false = true then (if x8_1 = true then (zX.l0 k1 t376 (((rd_T36 t376 x9_1).f2) == 0) true (!(true)) true (wrap64 (x9_1 + 1))) else (zX.l0 k1 t376 (((rd_T36 t376 x9_1).f2) == 0) true (!(true)) true (wrap64 (x9_1 + 1)))) else (if x8_1 = true then (zX.l0 k1 t376 (((rd_T36 t376 x9_1).f2) == 0) true false true (wrap64 (x9_1 + 1))) else (zX.l0 k1 t376 (((rd_T36 t376 x9_1).f2) == 0) true false false (wrap64 (x9_1 + 1))))) = some (r1, r2) := by rw [if_neg (show ¬ (false = true) by decide)] at H; exact H
           clear H
           have H := H1
           clear H1
           have H1 : (if x8_1 = true then (zX.l0 k1 t376 (((rd_T36 t376 x9_1).f2) == 0) true false true (wrap64 (x9_1 + 1))) else (zX.l0 k1 t376 (((rd_T36 t376 x9_1).f2) == 0) true false false (wrap64 (x9_1 + 1)))) = some (r1, r2) := by rw [if_neg (show ¬ (false = true) by decide)] at H; exact H
           clear H
           have H := H1
           clear H1
           by_cases c166 : x8_1 = true
           ·
            subst c166
            have H1 : (zX.l0 k1 t376 (((rd_T36 t376 x9_1).f2) == 0) true false true (wrap64 (x9_1 + 1))) = some (r1, r2) := by rw [if_pos rfl] at H; exact H
            clear H
            have H := H1
            clear H1
            have H' := zB.mk H
            clear H
            obtain ⟨Ao167, co167, eo167⟩ := Kd.R_slice HO_4.out
            subst eo167
            have p379 : 0 ≤ (x9_1 : Int) := of_decide_eq_true (by first | (with_reducible assumption) | assumption)
            have q379 : x9_1 < (t376.length : Int) := of_decide_eq_true (by first | (with_reducible assumption) | assumption)
            obtain ⟨ad379, e379, hx379_0, hx379_1, hx379_2⟩ := at_T36 (Kd.R_reads' HO_4.out).2.2 x9_1 p379 q379
            (try rw [← Nbq112.out] at hx379_0)
            (try rw [← Nbq153.out] at hx379_0)
            (try rw [← Nbq112.out] at hx379_1)
            (try rw [← Nbq153.out] at hx379_1)
            cases e379
            replace p379 := eq_true p379
            replace q379 := eq_true q379
            go_wp2_with (first | ((with_reducible refine zP (N := 10) rfl ?_); refine zO ?hg (N := 10) ?hd (cs := #[.bool false, .bool false, .int .i64 0]) (t := 36) ?hr ?_; (case hd => rfl); (case hg => rfl); (case hr => first | (go_simp; done) | (go_simp; rfl)); intro gb380 hg w168 hbox hb; have n0_ := zB.mk (Kd.R_below (Kd.R_elderB (by (with_reducible repeat (first | apply Kd.R_alloc | apply Kd.R_drewN | apply Kd.R_drew)); exact HO_4.out) gb380 (Nat.le_of_eq hg.symm)) hb); have n1_ := zB.mk (zN (g := gb374) (o := .cells #[.int .i64 a0_0, .int .i64 a0_1, .slice A0_2 l0_2.length c0_2] 28 (0, 0)) (by (with_reducible repeat (first | refine zC ?_ _ | refine zG ?_ | refine zD ?_ _)); exact BK374.out) hb); have n2_ := zB.mk (zK (by repeat (first | (with_reducible first | exact HB.out | apply zF | apply zA | apply zE | refine zH ?_ GE374.out) | exact HB.out)) hb); have n3_ := zB.mk (hbox); have n4_ := zB.mk ((by rw [hg]; exact (zM (by repeat (first | (with_reducible first | exact HB.out | apply zF | apply zA | apply zE | refine zH ?_ GE374.out) | exact HB.out))) : w.heap.size ≤ gb380)); have n5_ := n4_; have n6_ := zB.mk ((by rw [hg]; exact Nat.ne_of_lt (zQ (by (with_reducible repeat (first | refine zC ?_ _ | refine zG ?_ | refine zD ?_ _)); exact BK374.out)) : gb374 ≠ gb380)); have n7_ := zB.mk n6_.out.symm; clear HO_4; clear BK374; clear HB; have HO_4 := n0_; have BK374 := n1_; have HB := n2_; have BK380 := n3_; have GW380 := n4_; have GE380 := n5_; have NB374_380 := n6_; have NB380_374 := n7_; clear n0_ n1_ n2_ n3_ n4_ n5_ n6_ n7_; clear hb hbox hg; have hnb169 := NB380_374.out; have hnc169 := NB374_380.out; have hcz170_0 : w168.cell? ⟨gb380, 0, none⟩ = some (.bool false) := zJ BK380.out 0; have hcz170_1 : w168.cell? ⟨gb380, 1, none⟩ = some (.bool false) := zJ BK380.out 1; have hcz170_2 : w168.cell? ⟨gb380, 2, none⟩ = some (.int .i64 0) := zJ BK380.out 2; have hfz170_0 := zI BK380.out 0; have hfz170_1 := zI BK380.out 1; have hfz170_2 := zI BK380.out 2))
            go_roundg k1
            case measure => have := HK1.out; omega
            case rel => exact ⟨((((rd_T36 t376 x9_1).f2) == 0)), (true), (false), (true), (wrap64 (x9_1 + 1)), (by first | rfl | (simp; done) | (simp [*]; done)), (by first | rfl | (simp; done) | (simp [*]; done)), (by first | rfl | (simp; done) | (simp [*]; done)), (by first | rfl | (simp; done) | (simp [*]; done)), (by first | rfl | (simp; done) | (simp [*]; done)), H', ⟨by have := HK1.out; omega⟩, ⟨by (with_reducible repeat (first | apply Kd.R_alloc | apply Kd.R_drewN | apply Kd.R_drew)); exact Kd.R_mono (Kd.R_far (p := ⟨gb380, 2, none⟩) (Kd.R_far (p := ⟨gb380, 1, none⟩) (Kd.R_far (p := ⟨gb380, 0, none⟩) (Kd.R_mono HO_4.out (fun k_ hk => (⟨hk, hk.2⟩ : _ ∧ k_ ≠ gb380))) (fun _ hk => hk.2) (.bool false)) (fun _ hk => hk.2) (.bool true)) (fun _ hk => hk.2) (.int .i64 ((rd_T36 t376 x9_1).f2))) (fun _ hk => trivial)⟩, ⟨by (with_reducible repeat (first | refine zC ?_ _ | refine zG ?_ | refine zD ?_ _)); refine zL ?_ NB374_380.out _; (with_reducible repeat (first | refine zC ?_ _ | refine zG ?_ | refine zD ?_ _)); refine zL ?_ NB374_380.out _; (with_reducible repeat (first | refine zC ?_ _ | refine zG ?_ | refine zD ?_ _)); refine zL ?_ NB374_380.out _; (with_reducible repeat (first | refine zC ?_ _ | refine zG ?_ | refine zD ?_ _)); exact BK374.out⟩, ⟨by repeat (first | (with_reducible first | exact HB.out | apply zF | apply zA | apply zE | refine zH ?_ GE374.out | refine zH ?_ GE380.out) | exact HB.out)⟩⟩
           ·
            replace c166 := Bool.eq_false_iff.mpr c166
            subst c166
            have H1 : (zX.l0 k1 t376 (((rd_T36 t376 x9_1).f2) == 0) true false false (wrap64 (x9_1 + 1))) = some (r1, r2) := by rw [if_neg (show ¬ (false = true) by decide)] at H; exact H
            clear H
            have H := H1
            clear H1
            have H' := zB.mk H
            clear H
            obtain ⟨Ao171, co171, eo171⟩ := Kd.R_slice HO_4.out
            subst eo171
            have p379 : 0 ≤ (x9_1 : Int) := of_decide_eq_true (by first | (with_reducible assumption) | assumption)
            have q379 : x9_1 < (t376.length : Int) := of_decide_eq_true (by first | (with_reducible assumption) | assumption)
            obtain ⟨ad379, e379, hx379_0, hx379_1, hx379_2⟩ := at_T36 (Kd.R_reads' HO_4.out).2.2 x9_1 p379 q379
            (try rw [← Nbq112.out] at hx379_0)
            (try rw [← Nbq153.out] at hx379_0)
            (try rw [← Nbq112.out] at hx379_1)
            (try rw [← Nbq153.out] at hx379_1)
            cases e379
            replace p379 := eq_true p379
            replace q379 := eq_true q379
            go_wp2_with (first | ((with_reducible refine zP (N := 10) rfl ?_); refine zO ?hg (N := 10) ?hd (cs := #[.bool false, .bool false, .int .i64 0]) (t := 36) ?hr ?_; (case hd => rfl); (case hg => rfl); (case hr => first | (go_simp; done) | (go_simp; rfl)); intro gb380 hg w172 hbox hb; have n0_ := zB.mk (Kd.R_below (Kd.R_elderB (by (with_reducible repeat (first | apply Kd.R_alloc | apply Kd.R_drewN | apply Kd.R_drew)); exact HO_4.out) gb380 (Nat.le_of_eq hg.symm)) hb); have n1_ := zB.mk (zN (g := gb374) (o := .cells #[.int .i64 a0_0, .int .i64 a0_1, .slice A0_2 l0_2.length c0_2] 28 (0, 0)) (by (with_reducible repeat (first | refine zC ?_ _ | refine zG ?_ | refine zD ?_ _)); exact BK374.out) hb); have n2_ := zB.mk (zK (by repeat (first | (with_reducible first | exact HB.out | apply zF | apply zA | apply zE | refine zH ?_ GE374.out) | exact HB.out)) hb); have n3_ := zB.mk (hbox); have n4_ := zB.mk ((by rw [hg]; exact (zM (by repeat (first | (with_reducible first | exact HB.out | apply zF | apply zA | apply zE | refine zH ?_ GE374.out) | exact HB.out))) : w.heap.size ≤ gb380)); have n5_ := n4_; have n6_ := zB.mk ((by rw [hg]; exact Nat.ne_of_lt (zQ (by (with_reducible repeat (first | refine zC ?_ _ | refine zG ?_ | refine zD ?_ _)); exact BK374.out)) : gb374 ≠ gb380)); have n7_ := zB.mk n6_.out.symm; clear HO_4; clear BK374; clear HB; have HO_4 := n0_; have BK374 := n1_; have HB := n2_; have BK380 := n3_; have GW380 := n4_; have GE380 := n5_; have NB374_380 := n6_; have NB380_374 := n7_; clear n0_ n1_ n2_ n3_ n4_ n5_ n6_ n7_; clear hb hbox hg; have hnb173 := NB380_374.out; have hnc173 := NB374_380.out; have hcz174_0 : w172.cell? ⟨gb380, 0, none⟩ = some (.bool false) := zJ BK380.out 0; have hcz174_1 : w172.cell? ⟨gb380, 1, none⟩ = some (.bool false) := zJ BK380.out 1; have hcz174_2 : w172.cell? ⟨gb380, 2, none⟩ = some (.int .i64 0) := zJ BK380.out 2; have hfz174_0 := zI BK380.out 0; have hfz174_1 := zI BK380.out 1; have hfz174_2 := zI BK380.out 2))
            go_roundg k1
            case measure => have := HK1.out; omega
            case rel => exact ⟨((((rd_T36 t376 x9_1).f2) == 0)), (true), (false), (false), (wrap64 (x9_1 + 1)), (by first | rfl | (simp; done) | (simp [*]; done)), (by first | rfl | (simp; done) | (simp [*]; done)), (by first | rfl | (simp; done) | (simp [*]; done)), (by first | rfl | (simp; done) | (simp [*]; done)), (by first | rfl | (simp; done) | (simp [*]; done)), H', ⟨by have := HK1.out; omega⟩, ⟨by (with_reducible repeat (first | apply Kd.R_alloc | apply Kd.R_drewN | apply Kd.R_drew)); exact Kd.R_mono (Kd.R_far (p := ⟨gb380, 2, none⟩) (Kd.R_far (p := ⟨gb380, 1, none⟩) (Kd.R_far (p := ⟨gb380, 0, none⟩) (Kd.R_mono HO_4.out (fun k_ hk => (⟨hk, hk.2⟩ : _ ∧ k_ ≠ gb380))) (fun _ hk => hk.2) (.bool false)) (fun _ hk => hk.2) (.bool true)) (fun _ hk => hk.2) (.int .i64 ((rd_T36 t376 x9_1).f2))) (fun _ hk => trivial)⟩, ⟨by (with_reducible repeat (first | refine zC ?_ _ | refine zG ?_ | refine zD ?_ _)); refine zL ?_ NB374_380.out _; (with_reducible repeat (first | refine zC ?_ _ | refine zG ?_ | refine zD ?_ _)); refine zL ?_ NB374_380.out _; (with_reducible repeat (first | refine zC ?_ _ | refine zG ?_ | refine zD ?_ _)); refine zL ?_ NB374_380.out _; (with_reducible repeat (first | refine zC ?_ _ | refine zG ?_ | refine zD ?_ _)); exact BK374.out⟩, ⟨by repeat (first | (with_reducible first | exact HB.out | apply zF | apply zA | apply zE | refine zH ?_ GE374.out | refine zH ?_ GE380.out) | exact HB.out)⟩⟩
         ·
          replace c155 := Bool.eq_false_iff.mpr c155
          subst c155
          have H1 : (if x7_1 = true then (if x8_1 = true then (zX.l0 k1 t376 (((rd_T36 t376 x9_1).f2) == 0) (((rd_T36 t376 x9_1).f2) != 0) true true (wrap64 (x9_1 + 1))) else (if false = true then (zX.l0 k1 t376 (((rd_T36 t376 x9_1).f2) == 0) (((rd_T36 t376 x9_1).f2) != 0) true true (wrap64 (x9_1 + 1))) else (zX.l0 k1 t376 (((rd_T36 t376 x9_1).f2) == 0) (((rd_T36 t376 x9_1).f2) != 0) true false (wrap64 (x9_1 + 1))))) else (if false = true then (if x8_1 = true then (zX.l0 k1 t376 (((rd_T36 t376 x9_1).f2) == 0) (((rd_T36 t376 x9_1).f2) != 0) (!(true)) true (wrap64 (x9_1 + 1))) else (zX.l0 k1 t376 (((rd_T36 t376 x9_1).f2) == 0) (((rd_T36 t376 x9_1).f2) != 0) (!(true)) true (wrap64 (x9_1 + 1)))) else (if x8_1 = true then (zX.l0 k1 t376 (((rd_T36 t376 x9_1).f2) == 0) (((rd_T36 t376 x9_1).f2) != 0) false true (wrap64 (x9_1 + 1))) else (zX.l0 k1 t376 (((rd_T36 t376 x9_1).f2) == 0) (((rd_T36 t376 x9_1).f2) != 0) false false (wrap64 (x9_1 + 1)))))) = some (r1, r2) := by rw [if_neg (show ¬ (false = true) by decide)] at H; exact H
          clear H
          have H := H1
          clear H1
          by_cases c175 : x7_1 = true
          ·
           subst c175
           have H1 : (if x8_1 = true then (zX.l0 k1 t376 (((rd_T36 t376 x9_1).f2) == 0) (((rd_T36 t376 x9_1).f2) != 0) true true (wrap64 (x9_1 + 1))) else (if false = true then (zX.l0 k1 t376 (((rd_T36 t376 x9_1).f2) == 0) (((rd_T36 t376 x9_1).f2) != 0) true true (wrap64 (x9_1 + 1))) else (zX.l0 k1 t376 (((rd_T36 t376 x9_1).f2) == 0) (((rd_T36 t376 x9_1).f2) != 0) true false (wrap64 (x9_1 + 1))))) = some (r1, r2) := by rw [if_pos rfl] at H; exact H
           clear H
           have H := H1
           clear H1
           by_cases c176 : x8_1 = true
           ·
            subst c176
            have H1 : (zX.l0 k1 t376 (((rd_T36 t376 x9_1).f2) == 0) (((rd_T36 t376 x9_1).f2) != 0) true true (wrap64 (x9_1 + 1))) = some (r1, r2) := by rw [if_pos rfl] at H; exact H
            clear H
            have H := H1
            clear H1
            have H' := zB.mk H
            clear H
            obtain ⟨Ao177, co177, eo177⟩ := Kd.R_slice HO_4.out
            subst eo177
            have p379 : 0 ≤ (x9_1 : Int) := of_decide_eq_true (by first | (with_reducible assumption) | assumption)
            have q379 : x9_1 < (t376.length : Int) := of_decide_eq_true (by first | (with_reducible assumption) | assumption)
            obtain ⟨ad379, e379, hx379_0, hx379_1, hx379_2⟩ := at_T36 (Kd.R_reads' HO_4.out).2.2 x9_1 p379 q379
            (try rw [← Nbq112.out] at hx379_0)
            (try rw [← Nbq153.out] at hx379_0)
            (try rw [← Nbq112.out] at hx379_1)
            (try rw [← Nbq153.out] at hx379_1)
            cases e379
            replace p379 := eq_true p379
            replace q379 := eq_true q379
            go_wp2_with (first | ((with_reducible refine zP (N := 10) rfl ?_); refine zO ?hg (N := 10) ?hd (cs := #[.bool false, .bool false, .int .i64 0]) (t := 36) ?hr ?_; (case hd => rfl); (case hg => rfl); (case hr => first | (go_simp; done) | (go_simp; rfl)); intro gb380 hg w178 hbox hb; have n0_ := zB.mk (Kd.R_below (Kd.R_elderB (by (with_reducible repeat (first | apply Kd.R_alloc | apply Kd.R_drewN | apply Kd.R_drew)); exact HO_4.out) gb380 (Nat.le_of_eq hg.symm)) hb); have n1_ := zB.mk (zN (g := gb374) (o := .cells #[.int .i64 a0_0, .int .i64 a0_1, .slice A0_2 l0_2.length c0_2] 28 (0, 0)) (by (with_reducible repeat (first | refine zC ?_ _ | refine zG ?_ | refine zD ?_ _)); exact BK374.out) hb); have n2_ := zB.mk (zK (by repeat (first | (with_reducible first | exact HB.out | apply zF | apply zA | apply zE | refine zH ?_ GE374.out) | exact HB.out)) hb); have n3_ := zB.mk (hbox); have n4_ := zB.mk ((by rw [hg]; exact (zM (by repeat (first | (with_reducible first | exact HB.out | apply zF | apply zA | apply zE | refine zH ?_ GE374.out) | exact HB.out))) : w.heap.size ≤ gb380)); have n5_ := n4_; have n6_ := zB.mk ((by rw [hg]; exact Nat.ne_of_lt (zQ (by (with_reducible repeat (first | refine zC ?_ _ | refine zG ?_ | refine zD ?_ _)); exact BK374.out)) : gb374 ≠ gb380)); have n7_ := zB.mk n6_.out.symm; clear HO_4; clear BK374; clear HB; have HO_4 := n0_; have BK374 := n1_; have HB := n2_; have BK380 := n3_; have GW380 := n4_; have GE380 := n5_; have NB374_380 := n6_; have NB380_374 := n7_; clear n0_ n1_ n2_ n3_ n4_ n5_ n6_ n7_; clear hb hbox hg; have hnb179 := NB380_374.out; have hnc179 := NB374_380.out; have hcz180_0 : w178.cell? ⟨gb380, 0, none⟩ = some (.bool false) := zJ BK380.out 0; have hcz180_1 : w178.cell? ⟨gb380, 1, none⟩ = some (.bool false) := zJ BK380.out 1; have hcz180_2 : w178.cell? ⟨gb380, 2, none⟩ = some (.int .i64 0) := zJ BK380.out 2; have hfz180_0 := zI BK380.out 0; have hfz180_1 := zI BK380.out 1; have hfz180_2 := zI BK380.out 2))
            go_roundg k1
            case measure => have := HK1.out; omega
            case rel => exact ⟨((((rd_T36 t376 x9_1).f2) == 0)), ((((rd_T36 t376 x9_1).f2) != 0)), (true), (true), (wrap64 (x9_1 + 1)), (by first | rfl | (simp; done) | (simp [*]; done)), (by first | rfl | (simp; done) | (simp [*]; done)), (by first | rfl | (simp; done) | (simp [*]; done)), (by first | rfl | (simp; done) | (simp [*]; done)), (by first | rfl | (simp; done) | (simp [*]; done)), H', ⟨by have := HK1.out; omega⟩, ⟨by (with_reducible repeat (first | apply Kd.R_alloc | apply Kd.R_drewN | apply Kd.R_drew)); exact Kd.R_mono (Kd.R_far (p := ⟨gb380, 2, none⟩) (Kd.R_far (p := ⟨gb380, 1, none⟩) (Kd.R_far (p := ⟨gb380, 0, none⟩) (Kd.R_mono HO_4.out (fun k_ hk => (⟨hk, hk.2⟩ : _ ∧ k_ ≠ gb380))) (fun _ hk => hk.2) (.bool false)) (fun _ hk => hk.2) (.bool true)) (fun _ hk => hk.2) (.int .i64 ((rd_T36 t376 x9_1).f2))) (fun _ hk => trivial)⟩, ⟨by (with_reducible repeat (first | refine zC ?_ _ | refine zG ?_ | refine zD ?_ _)); refine zL ?_ NB374_380.out _; (with_reducible repeat (first | refine zC ?_ _ | refine zG ?_ | refine zD ?_ _)); refine zL ?_ NB374_380.out _; (with_reducible repeat (first | refine zC ?_ _ | refine zG ?_ | refine zD ?_ _)); refine zL ?_ NB374_380.out _; (with_reducible repeat (first | refine zC ?_ _ | refine zG ?_ | refine zD ?_ _)); exact BK374.out⟩, ⟨by repeat (first | (with_reducible first | exact HB.out | apply zF | apply zA | apply zE | refine zH ?_ GE374.out | refine zH ?_ GE380.out) | exact HB.out)⟩⟩
           ·
            replace c176 := Bool.eq_false_iff.mpr c176
            subst c176
            have H1 : (if false = true then (zX.l0 k1 t376 (((rd_T36 t376 x9_1).f2) == 0) (((rd_T36 t376 x9_1).f2) != 0) true true (wrap64 (x9_1 + 1))) else (zX.l0 k1 t376 (((rd_T36 t376 x9_1).f2) == 0) (((rd_T36 t376 x9_1).f2) != 0) true false (wrap64 (x9_1 + 1)))) = some (r1, r2) := by rw [if_neg (show ¬ (false = true) by decide)] at H; exact H
            clear H
            have H := H1
            clear H1
            have H1 : (zX.l0 k1 t376 (((rd_T36 t376 x9_1).f2) == 0) (((rd_T36 t376 x9_1).f2) != 0) true false (wrap64 (x9_1 + 1))) = some (r1, r2) := by rw [if_neg (show ¬ (false = true) by decide)] at H; exact H
            clear H
            have H := H1
            clear H1
            have H' := zB.mk H
            clear H
            obtain ⟨Ao181, co181, eo181⟩ := Kd.R_slice HO_4.out
            subst eo181
            have p379 : 0 ≤ (x9_1 : Int) := of_decide_eq_true (by first | (with_reducible assumption) | assumption)
            have q379 : x9_1 < (t376.length : Int) := of_decide_eq_true (by first | (with_reducible assumption) | assumption)
            obtain ⟨ad379, e379, hx379_0, hx379_1, hx379_2⟩ := at_T36 (Kd.R_reads' HO_4.out).2.2 x9_1 p379 q379
            (try rw [← Nbq112.out] at hx379_0)
            (try rw [← Nbq153.out] at hx379_0)
            (try rw [← Nbq112.out] at hx379_1)
            (try rw [← Nbq153.out] at hx379_1)
            cases e379
            replace p379 := eq_true p379
            replace q379 := eq_true q379
            go_wp2_with (first | ((with_reducible refine zP (N := 10) rfl ?_); refine zO ?hg (N := 10) ?hd (cs := #[.bool false, .bool false, .int .i64 0]) (t := 36) ?hr ?_; (case hd => rfl); (case hg => rfl); (case hr => first | (go_simp; done) | (go_simp; rfl)); intro gb380 hg w182 hbox hb; have n0_ := zB.mk (Kd.R_below (Kd.R_elderB (by (with_reducible repeat (first | apply Kd.R_alloc | apply Kd.R_drewN | apply Kd.R_drew)); exact HO_4.out) gb380 (Nat.le_of_eq hg.symm)) hb); have n1_ := zB.mk (zN (g := gb374) (o := .cells #[.int .i64 a0_0, .int .i64 a0_1, .slice A0_2 l0_2.length c0_2] 28 (0, 0)) (by (with_reducible repeat (first | refine zC ?_ _ | refine zG ?_ | refine zD ?_ _)); exact BK374.out) hb); have n2_ := zB.mk (zK (by repeat (first | (with_reducible first | exact HB.out | apply zF | apply zA | apply zE | refine zH ?_ GE374.out) | exact HB.out)) hb); have n3_ := zB.mk (hbox); have n4_ := zB.mk ((by rw [hg]; exact (zM (by repeat (first | (with_reducible first | exact HB.out | apply zF | apply zA | apply zE | refine zH ?_ GE374.out) | exact HB.out))) : w.heap.size ≤ gb380)); have n5_ := n4_; have n6_ := zB.mk ((by rw [hg]; exact Nat.ne_of_lt (zQ (by (with_reducible repeat (first | refine zC ?_ _ | refine zG ?_ | refine zD ?_ _)); exact BK374.out)) : gb374 ≠ gb380)); have n7_ := zB.mk n6_.out.symm; clear HO_4; clear BK374; clear HB; have HO_4 := n0_; have BK374 := n1_; have HB := n2_; have BK380 := n3_; have GW380 := n4_; have GE380 := n5_; have NB374_380 := n6_; have NB380_374 := n7_; clear n0_ n1_ n2_ n3_ n4_ n5_ n6_ n7_; clear hb hbox hg; have hnb183 := NB380_374.out; have hnc183 := NB374_380.out; have hcz184_0 : w182.cell? ⟨gb380, 0, none⟩ = some (.bool false) := zJ BK380.out 0; have hcz184_1 : w182.cell? ⟨gb380, 1, none⟩ = some (.bool false) := zJ BK380.out 1; have hcz184_2 : w182.cell? ⟨gb380, 2, none⟩ = some (.int .i64 0) := zJ BK380.out 2; have hfz184_0 := zI BK380.out 0; have hfz184_1 := zI BK380.out 1; have hfz184_2 := zI BK380.out 2))
            go_roundg k1
            case measure => have := HK1.out; omega
            case rel => exact ⟨((((rd_T36 t376 x9_1).f2) == 0)), ((((rd_T36 t376 x9_1).f2) != 0)), (true), (false), (wrap64 (x9_1 + 1)), (by first | rfl | (simp; done) | (simp [*]; done)), (by first | rfl | (simp; done) | (simp [*]; done)), (by first | rfl | (simp; done) | (simp [*]; done)), (by first | rfl | (simp; done) | (simp [*]; done)), (by first | rfl | (simp; done) | (simp [*]; done)), H', ⟨by have := HK1.out; omega⟩, ⟨by (with_reducible repeat (first | apply Kd.R_alloc | apply Kd.R_drewN | apply Kd.R_drew)); exact Kd.R_mono (Kd.R_far (p := ⟨gb380, 2, none⟩) (Kd.R_far (p := ⟨gb380, 1, none⟩) (Kd.R_far (p := ⟨gb380, 0, none⟩) (Kd.R_mono HO_4.out (fun k_ hk => (⟨hk, hk.2⟩ : _ ∧ k_ ≠ gb380))) (fun _ hk => hk.2) (.bool false)) (fun _ hk => hk.2) (.bool true)) (fun _ hk => hk.2) (.int .i64 ((rd_T36 t376 x9_1).f2))) (fun _ hk => trivial)⟩, ⟨by (with_reducible repeat (first | refine zC ?_ _ | refine zG ?_ | refine zD ?_ _)); refine zL ?_ NB374_380.out _; (with_reducible repeat (first | refine zC ?_ _ | refine zG ?_ | refine zD ?_ _)); refine zL ?_ NB374_380.out _; (with_reducible repeat (first | refine zC ?_ _ | refine zG ?_ | refine zD ?_ _)); refine zL ?_ NB374_380.out _; (with_reducible repeat (first | refine zC ?_ _ | refine zG ?_ | refine zD ?_ _)); exact BK374.out⟩, ⟨by repeat (first | (with_reducible first | exact HB.out | apply zF | apply zA | apply zE | refine zH ?_ GE374.out | refine zH ?_ GE380.out) | exact HB.out)⟩⟩
          ·
           replace c175 := Bool.eq_false_iff.mpr c175
           subst c175
           have H1 : (if false = true then (if x8_1 = true then (zX.l0 k1 t376 (((rd_T36 t376 x9_1).f2) == 0) (((rd_T36 t376 x9_1).f2) != 0) (!(true)) true (wrap64 (x9_1 + 1))) else (zX.l0 k1 t376 (((rd_T36 t376 x9_1).f2) == 0) (((rd_T36 t376 x9_1).f2) != 0) (!(true)) true (wrap64 (x9_1 + 1)))) else (if x8_1 = true then (zX.l0 k1 t376 (((rd_T36 t376 x9_1).f2) == 0) (((rd_T36 t376 x9_1).f2) != 0) false true (wrap64 (x9_1 + 1))) else (zX.l0 k1 t376 (((rd_T36 t376 x9_1).f2) == 0) (((rd_T36 t376 x9_1).f2) != 0) false false (wrap64 (x9_1 + 1))))) = some (r1, r2) := by rw [if_neg (show ¬ (false = true) by decide)] at H; exact H
           clear H
           have H := H1
           clear H1
           have H1 : (if x8_1 = true then (zX.l0 k1 t376 (((rd_T36 t376 x9_1).f2) == 0) (((rd_T36 t376 x9_1).f2) != 0) false true (wrap64 (x9_1 + 1))) else (zX.l0 k1 t376 (((rd_T36 t376 x9_1).f2) == 0) (((rd_T36 t376 x9_1).f2) != 0) false false (wrap64 (x9_1 + 1)))) = some (r1, r2) := by rw [if_neg (show ¬ (false = true) by decide)] at H; exact H
           clear H
           have H := H1
           clear H1
           by_cases c185 : x8_1 = true
           ·
            subst c185
            have H1 : (zX.l0 k1 t376 (((rd_T36 t376 x9_1).f2) == 0) (((rd_T36 t376 x9_1).f2) != 0) false true (wrap64 (x9_1 + 1))) = some (r1, r2) := by rw [if_pos rfl] at H; exact H
            clear H
            have H := H1
            clear H1
            have H' := zB.mk H
            clear H
            obtain ⟨Ao186, co186, eo186⟩ := Kd.R_slice HO_4.out
            subst eo186
            have p379 : 0 ≤ (x9_1 : Int) := of_decide_eq_true (by first | (with_reducible assumption) | assumption)
            have q379 : x9_1 < (t376.length : Int) := of_decide_eq_true (by first | (with_reducible assumption) | assumption)
            obtain ⟨ad379, e379, hx379_0, hx379_1, hx379_2⟩ := at_T36 (Kd.R_reads' HO_4.out).2.2 x9_1 p379 q379
            (try rw [← Nbq112.out] at hx379_0)
            (try rw [← Nbq153.out] at hx379_0)
            (try rw [← Nbq112.out] at hx379_1)
            (try rw [← Nbq153.out] at hx379_1)
            cases e379
            replace p379 := eq_true p379
            replace q379 := eq_true q379
            go_wp2_with (first | ((with_reducible refine zP (N := 10) rfl ?_); refine zO ?hg (N := 10) ?hd (cs := #[.bool false, .bool false, .int .i64 0]) (t := 36) ?hr ?_; (case hd => rfl); (case hg => rfl); (case hr => first | (go_simp; done) | (go_simp; rfl)); intro gb380 hg w187 hbox hb; have n0_ := zB.mk (Kd.R_below (Kd.R_elderB (by (with_reducible repeat (first | apply Kd.R_alloc | apply Kd.R_drewN | apply Kd.R_drew)); exact HO_4.out) gb380 (Nat.le_of_eq hg.symm)) hb); have n1_ := zB.mk (zN (g := gb374) (o := .cells #[.int .i64 a0_0, .int .i64 a0_1, .slice A0_2 l0_2.length c0_2] 28 (0, 0)) (by (with_reducible repeat (first | refine zC ?_ _ | refine zG ?_ | refine zD ?_ _)); exact BK374.out) hb); have n2_ := zB.mk (zK (by repeat (first | (with_reducible first | exact HB.out | apply zF | apply zA | apply zE | refine zH ?_ GE374.out) | exact HB.out)) hb); have n3_ := zB.mk (hbox); have n4_ := zB.mk ((by rw [hg]; exact (zM (by repeat (first | (with_reducible first | exact HB.out | apply zF | apply zA | apply zE | refine zH ?_ GE374.out) | exact HB.out))) : w.heap.size ≤ gb380)); have n5_ := n4_; have n6_ := zB.mk ((by rw [hg]; exact Nat.ne_of_lt (zQ (by (with_reducible repeat (first | refine zC ?_ _ | refine zG ?_ | refine zD ?_ _)); exact BK374.out)) : gb374 ≠ gb380)); have n7_ := zB.mk n6_.out.symm; clear HO_4; clear BK374; clear HB; have HO_4 := n0_; have BK374 := n1_; have HB := n2_; have BK380 := n3_; have GW380 := n4_; have GE380 := n5_; have NB374_380 := n6_; have NB380_374 := n7_; clear n0_ n1_ n2_ n3_ n4_ n5_ n6_ n7_; clear hb hbox hg; have hnb188 := NB380_374.out; have hnc188 := NB374_380.out; have hcz189_0 : w187.cell? ⟨gb380, 0, none⟩ = some (.bool false) := zJ BK380.out 0; have hcz189_1 : w187.cell? ⟨gb380, 1, none⟩ = some (.bool false) := zJ BK380.out 1; have hcz189_2 : w187.cell? ⟨gb380, 2, none⟩ = some (.int .i64 0) := zJ BK380.out 2; have hfz189_0 := zI BK380.out 0; have hfz189_1 := zI BK380.out 1; have hfz189_2 := zI BK380.out 2))
            go_roundg k1
            case measure => have := HK1.out; omega
            case rel => exact ⟨((((rd_T36 t376 x9_1).f2) == 0)), ((((rd_T36 t376 x9_1).f2) != 0)), (false), (true), (wrap64 (x9_1 + 1)), (by first | rfl | (simp; done) | (simp [*]; done)), (by first | rfl | (simp; done) | (simp [*]; done)), (by first | rfl | (simp; done) | (simp [*]; done)), (by first | rfl | (simp; done) | (simp [*]; done)), (by first | rfl | (simp; done) | (simp [*]; done)), H', ⟨by have := HK1.out; omega⟩, ⟨by (with_reducible repeat (first | apply Kd.R_alloc | apply Kd.R_drewN | apply Kd.R_drew)); exact Kd.R_mono (Kd.R_far (p := ⟨gb380, 2, none⟩) (Kd.R_far (p := ⟨gb380, 1, none⟩) (Kd.R_far (p := ⟨gb380, 0, none⟩) (Kd.R_mono HO_4.out (fun k_ hk => (⟨hk, hk.2⟩ : _ ∧ k_ ≠ gb380))) (fun _ hk => hk.2) (.bool false)) (fun _ hk => hk.2) (.bool true)) (fun _ hk => hk.2) (.int .i64 ((rd_T36 t376 x9_1).f2))) (fun _ hk => trivial)⟩, ⟨by (with_reducible repeat (first | refine zC ?_ _ | refine zG ?_ | refine zD ?_ _)); refine zL ?_ NB374_380.out _; (with_reducible repeat (first | refine zC ?_ _ | refine zG ?_ | refine zD ?_ _)); refine zL ?_ NB374_380.out _; (with_reducible repeat (first | refine zC ?_ _ | refine zG ?_ | refine zD ?_ _)); refine zL ?_ NB374_380.out _; (with_reducible repeat (first | refine zC ?_ _ | refine zG ?_ | refine zD ?_ _)); exact BK374.out⟩, ⟨by repeat (first | (with_reducible first | exact HB.out | apply zF | apply zA | apply zE | refine zH ?_ GE374.out | refine zH ?_ GE380.out) | exact HB.out)⟩⟩
           ·
            replace c185 := Bool.eq_false_iff.mpr c185
            subst c185
            have H1 : (zX.l0 k1 t376 (((rd_T36 t376 x9_1).f2) == 0) (((rd_T36 t376 x9_1).f2) != 0) false false (wrap64 (x9_1 + 1))) = some (r1, r2) := by rw [if_neg (show ¬ (false = true) by decide)] at H; exact H
            clear H
            have H := H1
            clear H1
            have H' := zB.mk H
            clear H
            obtain ⟨Ao190, co190, eo190⟩ := Kd.R_slice HO_4.out
            subst eo190
            have p379 : 0 ≤ (x9_1 : Int) := of_decide_eq_true (by first | (with_reducible assumption) | assumption)
            have q379 : x9_1 < (t376.length : Int) := of_decide_eq_true (by first | (with_reducible assumption) | assumption)
            obtain ⟨ad379, e379, hx379_0, hx379_1, hx379_2⟩ := at_T36 (Kd.R_reads' HO_4.out).2.2 x9_1 p379 q379
            (try rw [← Nbq112.out] at hx379_0)
            (try rw [← Nbq153.out] at hx379_0)
            (try rw [← Nbq112.out] at hx379_1)
            (try rw [← Nbq153.out] at hx379_1)
            cases e379
            replace p379 := eq_true p379
            replace q379 := eq_true q379
            go_wp2_with (first | ((with_reducible refine zP (N := 10) rfl ?_); refine zO ?hg (N := 10) ?hd (cs := #[.bool false, .bool false, .int .i64 0]) (t := 36) ?hr ?_; (case hd => rfl); (case hg => rfl); (case hr => first | (go_simp; done) | (go_simp; rfl)); intro gb380 hg w191 hbox hb; have n0_ := zB.mk (Kd.R_below (Kd.R_elderB (by (with_reducible repeat (first | apply Kd.R_alloc | apply Kd.R_drewN | apply Kd.R_drew)); exact HO_4.out) gb380 (Nat.le_of_eq hg.symm)) hb); have n1_ := zB.mk (zN (g := gb374) (o := .cells #[.int .i64 a0_0, .int .i64 a0_1, .slice A0_2 l0_2.length c0_2] 28 (0, 0)) (by (with_reducible repeat (first | refine zC ?_ _ | refine zG ?_ | refine zD ?_ _)); exact BK374.out) hb); have n2_ := zB.mk (zK (by repeat (first | (with_reducible first | exact HB.out | apply zF | apply zA | apply zE | refine zH ?_ GE374.out) | exact HB.out)) hb); have n3_ := zB.mk (hbox); have n4_ := zB.mk ((by rw [hg]; exact (zM (by repeat (first | (with_reducible first | exact HB.out | apply zF | apply zA | apply zE | refine zH ?_ GE374.out) | exact HB.out))) : w.heap.size ≤ gb380)); have n5_ := n4_; have n6_ := zB.mk ((by rw [hg]; exact Nat.ne_of_lt (zQ (by (with_reducible repeat (first | refine zC ?_ _ | refine zG ?_ | refine zD ?_ _)); exact BK374.out)) : gb374 ≠ gb380)); have n7_ := zB.mk n6_.out.symm; clear HO_4; clear BK374; clear HB; have HO_4 := n0_; have BK374 := n1_; have HB := n2_; have BK380 := n3_; have GW380 := n4_; have GE380 := n5_; have NB374_380 := n6_; have NB380_374 := n7_; clear n0_ n1_ n2_ n3_ n4_ n5_ n6_ n7_; clear hb hbox hg; have hnb192 := NB380_374.out; have hnc192 := NB374_380.out; have hcz193_0 : w191.cell? ⟨gb380, 0, none⟩ = some (.bool false) := zJ BK380.out 0; have hcz193_1 : w191.cell? ⟨gb380, 1, none⟩ = some (.bool false) := zJ BK380.out 1; have hcz193_2 : w191.cell? ⟨gb380, 2, none⟩ = some (.int .i64 0) := zJ BK380.out 2; have hfz193_0 := zI BK380.out 0; have hfz193_1 := zI BK380.out 1; have hfz193_2 := zI BK380.out 2))
            go_roundg k1
            case measure => have := HK1.out; omega
            case rel => exact ⟨((((rd_T36 t376 x9_1).f2) == 0)), ((((rd_T36 t376 x9_1).f2) != 0)), (false), (false), (wrap64 (x9_1 + 1)), (by first | rfl | (simp; done) | (simp [*]; done)), (by first | rfl | (simp; done) | (simp [*]; done)), (by first | rfl | (simp; done) | (simp [*]; done)), (by first | rfl | (simp; done) | (simp [*]; done)), (by first | rfl | (simp; done) | (simp [*]; done)), H', ⟨by have := HK1.out; omega⟩, ⟨by (with_reducible repeat (first | apply Kd.R_alloc | apply Kd.R_drewN | apply Kd.R_drew)); exact Kd.R_mono (Kd.R_far (p := ⟨gb380, 2, none⟩) (Kd.R_far (p := ⟨gb380, 1, none⟩) (Kd.R_far (p := ⟨gb380, 0, none⟩) (Kd.R_mono HO_4.out (fun k_ hk => (⟨hk, hk.2⟩ : _ ∧ k_ ≠ gb380))) (fun _ hk => hk.2) (.bool false)) (fun _ hk => hk.2) (.bool true)) (fun _ hk => hk.2) (.int .i64 ((rd_T36 t376 x9_1).f2))) (fun _ hk => trivial)⟩, ⟨by (with_reducible repeat (first | refine zC ?_ _ | refine zG ?_ | refine zD ?_ _)); refine zL ?_ NB374_380.out _; (with_reducible repeat (first | refine zC ?_ _ | refine zG ?_ | refine zD ?_ _)); refine zL ?_ NB374_380.out _; (with_reducible repeat (first | refine zC ?_ _ | refine zG ?_ | refine zD ?_ _)); refine zL ?_ NB374_380.out _; (with_reducible repeat (first | refine zC ?_ _ | refine zG ?_ | refine zD ?_ _)); exact BK374.out⟩, ⟨by repeat (first | (with_reducible first | exact HB.out | apply zF | apply zA | apply zE | refine zH ?_ GE374.out | refine zH ?_ GE380.out) | exact HB.out)⟩⟩
        ·
         replace c154 := Bool.eq_false_iff.mpr c154
         subst c154
         have H1 : (if x6_1 = true then (if x7_1 = true then (if x8_1 = true then (zX.l0 k1 t376 false true true true (wrap64 (x9_1 + 1))) else (if false = true then (zX.l0 k1 t376 false true true false (wrap64 (x9_1 + 1))) else (zX.l0 k1 t376 false true true false (wrap64 (x9_1 + 1))))) else (if false = true then (if x8_1 = true then (zX.l0 k1 t376 false true (!(false)) true (wrap64 (x9_1 + 1))) else (zX.l0 k1 t376 false true (!(false)) false (wrap64 (x9_1 + 1)))) else (if x8_1 = true then (zX.l0 k1 t376 false true false true (wrap64 (x9_1 + 1))) else (zX.l0 k1 t376 false true false false (wrap64 (x9_1 + 1)))))) else (if x7_1 = true then (if x8_1 = true then (zX.l0 k1 t376 false false true true (wrap64 (x9_1 + 1))) else (if false = true then (zX.l0 k1 t376 false false true false (wrap64 (x9_1 + 1))) else (zX.l0 k1 t376 false false true false (wrap64 (x9_1 + 1))))) else (if false = true then (if x8_1 = true then (zX.l0 k1 t376 false false (!(false)) true (wrap64 (x9_1 + 1))) else (zX.l0 k1 t376 false false (!(false)) false (wrap64 (x9_1 + 1)))) else (if x8_1 = true then (zX.l0 k1 t376 false false false true (wrap64 (x9_1 + 1))) else (zX.l0 k1 t376 false false false false (wrap64 (x9_1 + 1))))))) = some (r1, r2) := by rw [if_neg (show ¬ (false = true) by decide)] at H; exact H
         clear H
         have H := H1
         clear H1
         by_cases c194 : x6_1 = true
         ·
          subst c194
          have H1 : (if x7_1 = true then (if x8_1 = true then (zX.l0 k1 t376 false true true true (wrap64 (x9_1 + 1))) else (if false = true then (zX.l0 k1 t376 false true true false (wrap64 (x9_1 + 1))) else (zX.l0 k1 t376 false true true false (wrap64 (x9_1 + 1))))) else (if false = true then (if x8_1 = true then (zX.l0 k1 t376 false true (!(false)) true (wrap64 (x9_1 + 1))) else (zX.l0 k1 t376 false true (!(false)) false (wrap64 (x9_1 + 1)))) else (if x8_1 = true then (zX.l0 k1 t376 false true false true (wrap64 (x9_1 + 1))) else (zX.l0 k1 t376 false true false false (wrap64 (x9_1 + 1)))))) = some (r1, r2) := by rw [if_pos rfl] at H; exact H
          clear H
          have H := H1
          clear H1
          by_cases c195 : x7_1 = true
          ·
           subst c195
           have H1 : (if x8_1 = true then (zX.l0 k1 t376 false true true true (wrap64 (x9_1 + 1))) else (if false = true then (zX.l0 k1 t376 false true true false (wrap64 (x9_1 + 1))) else (zX.l0 k1 t376 false true true false (wrap64 (x9_1 + 1))))) = some (r1, r2) := by rw [if_pos rfl] at H; exact H
           clear H
           have H := H1
           clear H1
           by_cases c196 : x8_1 = true
           ·
            subst c196
            have H1 : (zX.l0 k1 t376 false true true true (wrap64 (x9_1 + 1))) = some (r1, r2) := by rw [if_pos rfl] at H; exact H
            clear H
            have H := H1
            clear H1
            have H' := zB.mk H
            clear H
            obtain ⟨Ao197, co197, eo197⟩ := Kd.R_slice HO_4.out
            subst eo197
            have p379 : 0 ≤ (x9_1 : Int) := of_decide_eq_true (by first | (with_reducible assumption) | assumption)
            have q379 : x9_1 < (t376.length : Int) := of_decide_eq_true (by first | (with_reducible assumption) | assumption)
            obtain ⟨ad379, e379, hx379_0, hx379_1, hx379_2⟩ := at_T36 (Kd.R_reads' HO_4.out).2.2 x9_1 p379 q379
            (try rw [← Nbq112.out] at hx379_0)
            (try rw [← Nbq153.out] at hx379_0)
            (try rw [← Nbq112.out] at hx379_1)
            (try rw [← Nbq153.out] at hx379_1)
            cases e379
            replace p379 := eq_true p379
            replace q379 := eq_true q379
            go_wp2_with (first | ((with_reducible refine zP (N := 10) rfl ?_); refine zO ?hg (N := 10) ?hd (cs := #[.bool false, .bool false, .int .i64 0]) (t := 36) ?hr ?_; (case hd => rfl); (case hg => rfl); (case hr => first | (go_simp; done) | (go_simp; rfl)); intro gb380 hg w198 hbox hb; have n0_ := zB.mk (Kd.R_below (Kd.R_elderB (by (with_reducible repeat (first | apply Kd.R_alloc | apply Kd.R_drewN | apply Kd.R_drew)); exact HO_4.out) gb380 (Nat.le_of_eq hg.symm)) hb); have n1_ := zB.mk (zN (g := gb374) (o := .cells #[.int .i64 a0_0, .int .i64 a0_1, .slice A0_2 l0_2.length c0_2] 28 (0, 0)) (by (with_reducible repeat (first | refine zC ?_ _ | refine zG ?_ | refine zD ?_ _)); exact BK374.out) hb); have n2_ := zB.mk (zK (by repeat (first | (with_reducible first | exact HB.out | apply zF | apply zA | apply zE | refine zH ?_ GE374.out) | exact HB.out)) hb); have n3_ := zB.mk (hbox); have n4_ := zB.mk ((by rw [hg]; exact (zM (by repeat (first | (with_reducible first | exact HB.out | apply zF | apply zA | apply zE | refine zH ?_ GE374.out) | exact HB.out))) : w.heap.size ≤ gb380)); have n5_ := n4_; have n6_ := zB.mk ((by rw [hg]; exact Nat.ne_of_lt (zQ (by (with_reducible repeat (first | refine zC ?_ _ | refine zG ?_ | refine zD ?_ _)); exact BK374.out)) : gb374 ≠ gb380)); have n7_ := zB.mk n6_.out.symm; clear HO_4; clear BK374; clear HB; have HO_4 := n0_; have BK374 := n1_; have HB := n2_; have BK380 := n3_; have GW380 := n4_; have GE380 := n5_; have NB374_380 := n6_; have NB380_374 := n7_; clear n0_ n1_ n2_ n3_ n4_ n5_ n6_ n7_; clear hb hbox hg; have hnb199 := NB380_374.out; have hnc199 := NB374_380.out; have hcz200_0 : w198.cell? ⟨gb380, 0, none⟩ = some (.bool false) := zJ BK380.out 0; have hcz200_1 : w198.cell? ⟨gb380, 1, none⟩ = some (.bool false) := zJ BK380.out 1; have hcz200_2 : w198.cell? ⟨gb380, 2, none⟩ = some (.int .i64 0) := zJ BK380.out 2; have hfz200_0 := zI BK380.out 0; have hfz200_1 := zI BK380.out 1; have hfz200_2 := zI BK380.out 2))
            go_roundg k1
            case measure => have := HK1.out; omega
            case rel => exact ⟨(false), (true), (true), (true), (wrap64 (x9_1 + 1)), (by first | rfl | (simp; done) | (simp [*]; done)), (by first | rfl | (simp; done) | (simp [*]; done)), (by first | rfl | (simp; done) | (simp [*]; done)), (by first | rfl | (simp; done) | (simp [*]; done)), (by first | rfl | (simp; done) | (simp [*]; done)), H', ⟨by have := HK1.out; omega⟩, ⟨by (with_reducible repeat (first | apply Kd.R_alloc | apply Kd.R_drewN | apply Kd.R_drew)); exact Kd.R_mono (Kd.R_far (p := ⟨gb380, 2, none⟩) (Kd.R_far (p := ⟨gb380, 1, none⟩) (Kd.R_far (p := ⟨gb380, 0, none⟩) (Kd.R_mono HO_4.out (fun k_ hk => (⟨hk, hk.2⟩ : _ ∧ k_ ≠ gb380))) (fun _ hk => hk.2) (.bool false)) (fun _ hk => hk.2) (.bool false)) (fun _ hk => hk.2) (.int .i64 ((rd_T36 t376 x9_1).f2))) (fun _ hk => trivial)⟩, ⟨by (with_reducible repeat (first | refine zC ?_ _ | refine zG ?_ | refine zD ?_ _)); refine zL ?_ NB374_380.out _; (with_reducible repeat (first | refine zC ?_ _ | refine zG ?_ | refine zD ?_ _)); refine zL ?_ NB374_380.out _; (with_reducible repeat (first | refine zC ?_ _ | refine zG ?_ | refine zD ?_ _)); refine zL ?_ NB374_380.out _; (with_reducible repeat (first | refine zC ?_ _ | refine zG ?_ | refine zD ?_ _)); exact BK374.out⟩, ⟨by repeat (first | (with_reducible first | exact HB.out | apply zF | apply zA | apply zE | refine zH ?_ GE374.out | refine zH ?_ GE380.out) | exact HB.out)⟩⟩
           ·
            replace c196 := Bool.eq_false_iff.mpr c196
            subst c196
            have H1 : (if false = true then (zX.l0 k1 t376 false true true false (wrap64 (x9_1 + 1))) else (zX.l0 k1 t376 false true true false (wrap64 (x9_1 + 1)))) = some (r1, r2) := by rw [if_neg (show ¬ (false = true) by decide)] at H; exact H
            clear H
            have H := H1
            clear H1
            have H1 : (zX.l0 k1 t376 false true true false (wrap64 (x9_1 + 1))) = some (r1, r2) := by rw [if_neg (show ¬ (false = true) by decide)] at H; exact H
            clear H
            have H := H1
            clear H1
            have H' := zB.mk H
            clear H
            obtain ⟨Ao201, co201, eo201⟩ := Kd.R_slice HO_4.out
            subst eo201
            have p379 : 0 ≤ (x9_1 : Int) := of_decide_eq_true (by first | (with_reducible assumption) | assumption)
            have q379 : x9_1 < (t376.length : Int) := of_decide_eq_true (by first | (with_reducible assumption) | assumption)
            obtain ⟨ad379, e379, hx379_0, hx379_1, hx379_2⟩ := at_T36 (Kd.R_reads' HO_4.out).2.2 x9_1 p379 q379
            (try rw [← Nbq112.out] at hx379_0)
            (try rw [← Nbq153.out] at hx379_0)
            (try rw [← Nbq112.out] at hx379_1)
            (try rw [← Nbq153.out] at hx379_1)
            cases e379
            replace p379 := eq_true p379
            replace q379 := eq_true q379
            go_wp2_with (first | ((with_reducible refine zP (N := 10) rfl ?_); refine zO ?hg (N := 10) ?hd (cs := #[.bool false, .bool false, .int .i64 0]) (t := 36) ?hr ?_; (case hd => rfl); (case hg => rfl); (case hr => first | (go_simp; done) | (go_simp; rfl)); intro gb380 hg w202 hbox hb; have n0_ := zB.mk (Kd.R_below (Kd.R_elderB (by (with_reducible repeat (first | apply Kd.R_alloc | apply Kd.R_drewN | apply Kd.R_drew)); exact HO_4.out) gb380 (Nat.le_of_eq hg.symm)) hb); have n1_ := zB.mk (zN (g := gb374) (o := .cells #[.int .i64 a0_0, .int .i64 a0_1, .slice A0_2 l0_2.length c0_2] 28 (0, 0)) (by (with_reducible repeat (first | refine zC ?_ _ | refine zG ?_ | refine zD ?_ _)); exact BK374.out) hb); have n2_ := zB.mk (zK (by repeat (first | (with_reducible first | exact HB.out | apply zF | apply zA | apply zE | refine zH ?_ GE374.out) | exact HB.out)) hb); have n3_ := zB.mk (hbox); have n4_ := zB.mk ((by rw [hg]; exact (zM (by repeat (first | (with_reducible first | exact HB.out | apply zF | apply zA | apply zE | refine zH ?_ GE374.out) | exact HB.out))) : w.heap.size ≤ gb380)); have n5_ := n4_; have n6_ := zB.mk ((by rw [hg]; exact Nat.ne_of_lt (zQ (by (with_reducible repeat (first | refine zC ?_ _ | refine zG ?_ | refine zD ?_ _)); exact BK374.out)) : gb374 ≠ gb380)); have n7_ := zB.mk n6_.out.symm; clear HO_4; clear BK374; clear HB; have HO_4 := n0_; have BK374 := n1_; have HB := n2_; have BK380 := n3_; have GW380 := n4_; have GE380 := n5_; have NB374_380 := n6_; have NB380_374 := n7_; clear n0_ n1_ n2_ n3_ n4_ n5_ n6_ n7_; clear hb hbox hg; have hnb203 := NB380_374.out; have hnc203 := NB374_380.out; have hcz204_0 : w202.cell? ⟨gb380, 0, none⟩ = some (.bool false) := zJ BK380.out 0; have hcz204_1 : w202.cell? ⟨gb380, 1, none⟩ = some (.bool false) := zJ BK380.out 1; have hcz204_2 : w202.cell? ⟨gb380, 2, none⟩ = some (.int .i64 0) := zJ BK380.out 2; have hfz204_0 := zI BK380.out 0; have hfz204_1 := zI BK380.out 1; have hfz204_2 := zI BK380.out 2))
            go_roundg k1
            case measure => have := HK1.out; omega
            case rel => exact ⟨(false), (true), (true), (false), (wrap64 (x9_1 + 1)), (by first | rfl | (simp; done) | (simp [*]; done)), (by first | rfl | (simp; done) | (simp [*]; done)), (by first | rfl | (simp; done) | (simp [*]; done)), (by first | rfl | (simp; done) | (simp [*]; done)), (by first | rfl | (simp; done) | (simp [*]; done)), H', ⟨by have := HK1.out; omega⟩, ⟨by (with_reducible repeat (first | apply Kd.R_alloc | apply Kd.R_drewN | apply Kd.R_drew)); exact Kd.R_mono (Kd.R_far (p := ⟨gb380, 2, none⟩) (Kd.R_far (p := ⟨gb380, 1, none⟩) (Kd.R_far (p := ⟨gb380, 0, none⟩) (Kd.R_mono HO_4.out (fun k_ hk => (⟨hk, hk.2⟩ : _ ∧ k_ ≠ gb380))) (fun _ hk => hk.2) (.bool false)) (fun _ hk => hk.2) (.bool false)) (fun _ hk => hk.2) (.int .i64 ((rd_T36 t376 x9_1).f2))) (fun _ hk => trivial)⟩, ⟨by (with_reducible repeat (first | refine zC ?_ _ | refine zG ?_ | refine zD ?_ _)); refine zL ?_ NB374_380.out _; (with_reducible repeat (first | refine zC ?_ _ | refine zG ?_ | refine zD ?_ _)); refine zL ?_ NB374_380.out _; (with_reducible repeat (first | refine zC ?_ _ | refine zG ?_ | refine zD ?_ _)); refine zL ?_ NB374_380.out _; (with_reducible repeat (first | refine zC ?_ _ | refine zG ?_ | refine zD ?_ _)); exact BK374.out⟩, ⟨by repeat (first | (with_reducible first | exact HB.out | apply zF | apply zA | apply zE | refine zH ?_ GE374.out | refine zH ?_ GE380.out) | exact HB.out)⟩⟩
          ·
           replace c195 := Bool.eq_false_iff.mpr c195
           subst c195
           have H1 : (if false = true then (if x8_1 = true then (zX.l0 k1 t376 false true (!(false)) true (wrap64 (x9_1 + 1))) else (zX.l0 k1 t376 false true (!(false)) false (wrap64 (x9_1 + 1)))) else (if x8_1 = true then (zX.l0 k1 t376 false true false true (wrap64 (x9_1 + 1))) else (zX.l0 k1 t376 false true false false (wrap64 (x9_1 + 1))))) = some (r1, r2) := by rw [if_neg (show ¬ (false = true) by decide)] at H; exact H
           clear H
           have H := H1
           clear H1
           have H1 : (if x8_1 = true then (zX.l0 k1 t376 false true false true (wrap64 (x9_1 + 1))) else (zX.l0 k1 t376 false true false false (wrap64 (x9_1 + 1)))) = some (r1, r2) := by rw [if_neg (show ¬ (false = true) by decide)] at H; exact H
           clear H
           have H := H1
           clear H1
           by_cases c205 : x8_1 = true
           ·
            subst c205
            have H1 : (zX.l0 k1 t376 false true false true (wrap64 (x9_1 + 1))) = some (r1, r2) := by rw [if_pos rfl] at H; exact H
            clear H
            have H := H1
            clear H1
            have H' := zB.mk H
            clear H
            obtain ⟨Ao206, co206, eo206⟩ := Kd.R_slice HO_4.out
            subst eo206
            have p379 : 0 ≤ (x9_1 : Int) := of_decide_eq_true (by first | (with_reducible assumption) | assumption)
            have q379 : x9_1 < (t376.length : Int) := of_decide_eq_true (by first | (with_reducible assumption) | assumption)
            obtain ⟨ad379, e379, hx379_0, hx379_1, hx379_2⟩ := at_T36 (Kd.R_reads' HO_4.out).2.2 x9_1 p379 q379
            (try rw [← Nbq112.out] at hx379_0)
            (try rw [← Nbq153.out] at hx379_0)
            (try rw [← Nbq112.out] at hx379_1)
            (try rw [← Nbq153.out] at hx379_1)
            cases e379
            replace p379 := eq_true p379
            replace q379 := eq_true q379
            go_wp2_with (first | ((with_reducible refine zP (N := 10) rfl ?_); refine zO ?hg (N := 10) ?hd (cs := #[.bool false, .bool false, .int .i64 0]) (t := 36) ?hr ?_; (case hd => rfl); (case hg => rfl); (case hr => first | (go_simp; done) | (go_simp; rfl)); intro gb380 hg w207 hbox hb; have n0_ := zB.mk (Kd.R_below (Kd.R_elderB (by (with_reducible repeat (first | apply Kd.R_alloc | apply Kd.R_drewN | apply Kd.R_drew)); exact HO_4.out) gb380 (Nat.le_of_eq hg.symm)) hb); have n1_ := zB.mk (zN (g := gb374) (o := .cells #[.int .i64 a0_0, .int .i64 a0_1, .slice A0_2 l0_2.length c0_2] 28 (0, 0)) (by (with_reducible repeat (first | refine zC ?_ _ | refine zG ?_ | refine zD ?_ _)); exact BK374.out) hb); have n2_ := zB.mk (zK (by repeat (first | (with_reducible first | exact HB.out | apply zF | apply zA | apply zE | refine zH ?_ GE374.out) | exact HB.out)) hb); have n3_ := zB.mk (hbox); have n4_ := zB.mk ((by rw [hg]; exact (zM (by repeat (first | (with_reducible first | exact HB.out | apply zF | apply zA | apply zE | refine zH ?_ GE374.out) | exact HB.out))) : w.heap.size ≤ gb380)); have n5_ := n4_; have n6_ := zB.mk ((by rw [hg]; exact Nat.ne_of_lt (zQ (by (with_reducible repeat (first | refine zC ?_ _ | refine zG ?_ | refine zD ?_ _)); exact BK374.out)) : gb374 ≠ gb380)); have n7_ := zB.mk n6_.out.symm; clear HO_4; clear BK374; clear HB; have HO_4 := n0_; have BK374 := n1_; have HB := n2_; have BK380 := n3_; have GW380 := n4_; have GE380 := n5_; have NB374_380 := n6_; have NB380_374 := n7_; clear n0_ n1_ n2_ n3_ n4_ n5_ n6_ n7_; clear hb hbox hg; have hnb208 := NB380_374.out; have hnc208 := NB374_380.out; have hcz209_0 : w207.cell? ⟨gb380, 0, none⟩ = some (.bool false) := zJ BK380.out 0; have hcz209_1 : w207.cell? ⟨gb380, 1, none⟩ = some (.bool false) := zJ BK380.out 1; have hcz209_2 : w207.cell? ⟨gb380, 2, none⟩ = some (.int .i64 0) := zJ BK380.out 2; have hfz209_0 := zI BK380.out 0; have hfz209_1 := zI BK380.out 1; have hfz209_2 := zI BK380.out 2))
            go_roundg k1
            case measure => have := HK1.out; omega
            case rel => exact ⟨(false), (true), (false), (true), (wrap64 (x9_1 + 1)), (by first | rfl | (simp; done) | (simp [*]; done)), (by first | rfl | (simp; done) | (simp [*]; done)), (by first | rfl | (simp; done) | (simp [*]; done)), (by first | rfl | (simp; done) | (simp [*]; done)), (by first | rfl | (simp; done) | (simp [*]; done)), H', ⟨by have := HK1.out; omega⟩, ⟨by (with_reducible repeat (first | apply Kd.R_alloc | apply Kd.R_drewN | apply Kd.R_drew)); exact Kd.R_mono (Kd.R_far (p := ⟨gb380, 2, none⟩) (Kd.R_far (p := ⟨gb380, 1, none⟩) (Kd.R_far (p := ⟨gb380, 0, none⟩) (Kd.R_mono HO_4.out (fun k_ hk => (⟨hk, hk.2⟩ : _ ∧ k_ ≠ gb380))) (fun _ hk => hk.2) (.bool false)) (fun _ hk => hk.2) (.bool false)) (fun _ hk => hk.2) (.int .i64 ((rd_T36 t376 x9_1).f2))) (fun _ hk => trivial)⟩, ⟨by (with_reducible repeat (first | refine zC ?_ _ | refine zG ?_ | refine zD ?_ _)); refine zL ?_ NB374_380.out _; (with_reducible repeat (first | refine zC ?_ _ | refine zG ?_ | refine zD ?_ _)); refine zL ?_ NB374_380.out _; (with_reducible repeat (first | refine zC ?_ _ | refine zG ?_ | refine zD ?_ _)); refine zL ?_ NB374_380.out _; (with_reducible repeat (first | refine zC ?_ _ | refine zG ?_ | refine zD ?_ _)); exact BK374.out⟩, ⟨by repeat (first | (with_reducible first | exact HB.out | apply zF | apply zA | apply zE | refine zH ?_ GE374.out | refine zH ?_ GE380.out) | exact HB.out)⟩⟩
           ·
            replace c205 := Bool.eq_false_iff.mpr c205
            subst c205
            have H1 : (zX.l0 k1 t376 false true false false (wrap64 (x9_1 + 1))) = some (r1, r2) := by rw [if_neg (show ¬ (false = true) by decide)] at H; exact H
            clear H
            have H := H1
            clear H1
            have H' := zB.mk H
            clear H
            obtain ⟨Ao210, co210, eo210⟩ := Kd.R_slice HO_4.out
            subst eo210
            have p379 : 0 ≤ (x9_1 : Int) := of_decide_eq_true (by first | (with_reducible assumption) | assumption)
            have q379 : x9_1 < (t376.length : Int) := of_decide_eq_true (by first | (with_reducible assumption) | assumption)
            obtain ⟨ad379, e379, hx379_0, hx379_1, hx379_2⟩ := at_T36 (Kd.R_reads' HO_4.out).2.2 x9_1 p379 q379
            (try rw [← Nbq112.out] at hx379_0)
            (try rw [← Nbq153.out] at hx379_0)
            (try rw [← Nbq112.out] at hx379_1)
            (try rw [← Nbq153.out] at hx379_1)
            cases e379
            replace p379 := eq_true p379
            replace q379 := eq_true q379
            go_wp2_with (first | ((with_reducible refine zP (N := 10) rfl ?_); refine zO ?hg (N := 10) ?hd (cs := #[.bool false, .bool false, .int .i64 0]) (t := 36) ?hr ?_; (case hd => rfl); (case hg => rfl); (case hr => first | (go_simp; done) | (go_simp; rfl)); intro gb380 hg w211 hbox hb; have n0_ := zB.mk (Kd.R_below (Kd.R_elderB (by (with_reducible repeat (first | apply Kd.R_alloc | apply Kd.R_drewN | apply Kd.R_drew)); exact HO_4.out) gb380 (Nat.le_of_eq hg.symm)) hb); have n1_ := zB.mk (zN (g := gb374) (o := .cells #[.int .i64 a0_0, .int .i64 a0_1, .slice A0_2 l0_2.length c0_2] 28 (0, 0)) (by (with_reducible repeat (first | refine zC ?_ _ | refine zG ?_ | refine zD ?_ _)); exact BK374.out) hb); have n2_ := zB.mk (zK (by repeat (first | (with_reducible first | exact HB.out | apply zF | apply zA | apply zE | refine zH ?_ GE374.out) | exact HB.out)) hb); have n3_ := zB.mk (hbox); have n4_ := zB.mk ((by rw [hg]; exact (zM (by repeat (first | (with_reducible first | exact HB.out | apply zF | apply zA | apply zE | refine zH ?_ GE374.out) | exact HB.out))) : w.heap.size ≤ gb380)); have n5_ := n4_; have n6_ := zB.mk ((by rw [hg]; exact Nat.ne_of_lt (zQ (by (with_reducible repeat (first | refine zC ?_ _ | refine zG ?_ | refine zD ?_ _)); exact BK374.out)) : gb374 ≠ gb380)); have n7_ := zB.mk n6_.out.symm; clear HO_4; clear BK374; clear HB; have HO_4 := n0_; have BK374 := n1_; have HB := n2_; have BK380 := n3_; have GW380 := n4_; have GE380 := n5_; have NB374_380 := n6_; have NB380_374 := n7_; clear n0_ n1_ n2_ n3_ n4_ n5_ n6_ n7_; clear hb hbox hg; have hnb212 := NB380_374.out; have hnc212 := NB374_380.out; have hcz213_0 : w211.cell? ⟨gb380, 0, none⟩ = some (.bool false) := zJ BK380.out 0; have hcz213_1 : w211.cell? ⟨gb380, 1, none⟩ = some (.bool false) := zJ BK380.out 1; have hcz213_2 : w211.cell? ⟨gb380, 2, none⟩ = some (.int .i64 0) := zJ BK380.out 2; have hfz213_0 := zI BK380.out 0; have hfz213_1 := zI BK380.out 1; have hfz213_2 := zI BK380.out 2))
            go_roundg k1
            case measure => have := HK1.out; omega
            case rel => exact ⟨(false), (true), (false), (false), (wrap64 (x9_1 + 1)), (by first | rfl | (simp; done) | (simp [*]; done)), (by first | rfl | (simp; done) | (simp [*]; done)), (by first | rfl | (simp; done) | (simp [*]; done)), (by first | rfl | (simp; done) | (simp [*]; done)), (by first | rfl | (simp; done) | (simp [*]; done)), H', ⟨by have := HK1.out; omega⟩, ⟨by (with_reducible repeat (first | apply Kd.R_alloc | apply Kd.R_drewN | apply Kd.R_drew)); exact Kd.R_mono (Kd.R_far (p := ⟨gb380, 2, none⟩) (Kd.R_far (p := ⟨gb380, 1, none⟩) (Kd.R_far (p := ⟨gb380, 0, none⟩) (Kd.R_mono HO_4.out (fun k_ hk => (⟨hk, hk.2⟩ : _ ∧ k_ ≠ gb380))) (fun _ hk => hk.2) (.bool false)) (fun _ hk => hk.2) (.bool false)) (fun _ hk => hk.2) (.int .i64 ((rd_T36 t376 x9_1).f2))) (fun _ hk => trivial)⟩, ⟨by (with_reducible repeat (first | refine zC ?_ _ | refine zG ?_ | refine zD ?_ _)); refine zL ?_ NB374_380.out _; (with_reducible repeat (first | refine zC ?_ _ | refine zG ?_ | refine zD ?_ _)); refine zL ?_ NB374_380.out _; (with_reducible repeat (first | refine zC ?_ _ | refine zG ?_ | refine zD ?_ _)); refine zL ?_ NB374_380.out _; (with_reducible repeat (first | refine zC ?_ _ | refine zG ?_ | refine zD ?_ _)); exact BK374.out⟩, ⟨by repeat (first | (with_reducible first | exact HB.out | apply zF | apply zA | apply zE | refine zH ?_ GE374.out | refine zH ?_ GE380.out) | exact HB.out)⟩⟩
         ·
          replace c194 := Bool.eq_false_iff.mpr c194
          subst c194
          have H1 : (if x7_1 = true then (if x8_1 = true then (zX.l0 k1 t376 false false true true (wrap64 (x9_1 + 1))) else (if false = true then (zX.l0 k1 t376 false false true false (wrap64 (x9_1 + 1))) else (zX.l0 k1 t376 false false true false (wrap64 (x9_1 + 1))))) else (if false = true then (if x8_1 = true then (zX.l0 k1 t376 false false (!(false)) true (wrap64 (x9_1 + 1))) else (zX.l0 k1 t376 false false (!(false)) false (wrap64 (x9_1 + 1)))) else (if x8_1 = true then (zX.l0 k1 t376 false false false true (wrap64 (x9_1 + 1))) else (zX.l0 k1 t376 false false false false (wrap64 (x9_1 + 1)))))) = some (r1, r2) := by rw [if_neg (show ¬ (false = true) by decide)] at H; exact H
          clear H
          have H := H1
          clear H1
          by_cases c214 : x7_1 = true
          ·
           subst c214
           have H1 : (if x8_1 = true then (zX.l0 k1 t376 false false true true (wrap64 (x9_1 + 1))) else (if false = true then (zX.l0 k1 t376 false false true false (wrap64 (x9_1 + 1))) else (zX.l0 k1 t376 false false true false (wrap64 (x9_1 + 1))))) = some (r1, r2) := by rw [if_pos rfl] at H; exact H
           clear H
           have H := H1
           clear H1
           by_cases c215 : x8_1 = true
           ·
            subst c215
            have H1 : (zX.l0 k1 t376 false false true true (wrap64 (x9_1 + 1))) = some (r1, r2) := by rw [if_pos rfl] at H; exact H
            clear H
            have H := H1
            clear H1
            have H' := zB.mk H
            clear H
            obtain ⟨Ao216, co216, eo216⟩ := Kd.R_slice HO_4.out
            subst eo216
            have p379 : 0 ≤ (x9_1 : Int) := of_decide_eq_true (by first | (with_reducible assumption) | assumption)
            have q379 : x9_1 < (t376.length : Int) := of_decide_eq_true (by first | (with_reducible assumption) | assumption)
            obtain ⟨ad379, e379, hx379_0, hx379_1, hx379_2⟩ := at_T36 (Kd.R_reads' HO_4.out).2.2 x9_1 p379 q379
            (try rw [← Nbq112.out] at hx379_0)
            (try rw [← Nbq153.out] at hx379_0)
            (try rw [← Nbq112.out] at hx379_1)
            (try rw [← Nbq153.out] at hx379_1)
            cases e379
            replace p379 := eq_true p379
            replace q379 := eq_true q379
            go_wp2_with (first | ((with_reducible refine zP (N := 10) rfl ?_); refine zO ?hg (N := 10) ?hd (cs := #[.bool false, .bool false, .int .i64 0]) (t := 36) ?hr ?_; (case hd => rfl); (case hg => rfl); (case hr => first | (go_simp; done) | (go_simp; rfl)); intro gb380 hg w217 hbox hb; have n0_ := zB.mk (Kd.R_below (Kd.R_elderB (by (with_reducible repeat (first | apply Kd.R_alloc | apply Kd.R_drewN | apply Kd.R_drew)); exact HO_4.out) gb380 (Nat.le_of_eq hg.symm)) hb); have n1_ := zB.mk (zN (g := gb374) (o := .cells #[.int .i64 a0_0, .int .i64 a0_1, .slice A0_2 l0_2.length c0_2] 28 (0, 0)) (by (with_reducible repeat (first | refine zC ?_ _ | refine zG ?_ | refine zD ?_ _)); exact BK374.out) hb); have n2_ := zB.mk (zK (by repeat (first | (with_reducible first | exact HB.out | apply zF | apply zA | apply zE | refine zH ?_ GE374.out) | exact HB.out)) hb); have n3_ := zB.mk (hbox); have n4_ := zB.mk ((by rw [hg]; exact (zM (by repeat (first | (with_reducible first | exact HB.out | apply zF | apply zA | apply zE | refine zH ?_ GE374.out) | exact HB.out))) : w.heap.size ≤ gb380)); have n5_ := n4_; have n6_ := zB.mk ((by rw [hg]; exact Nat.ne_of_lt (zQ (by (with_reducible repeat (first | refine zC ?_ _ | refine zG ?_ | refine zD ?_ _)); exact BK374.out)) : gb374 ≠ gb380)); have n7_ := zB.mk n6_.out.symm; clear HO_4; clear BK374; clear HB; have HO_4 := n0_; have BK374 := n1_; have HB := n2_; have BK380 := n3_; have GW380 := n4_; have GE380 := n5_; have NB374_380 := n6_; have NB380_374 := n7_; clear n0_ n1_ n2_ n3_ n4_ n5_ n6_ n7_; clear hb hbox hg; have hnb218 := NB380_374.out; have hnc218 := NB374_380.out; have hcz219_0 : w217.cell? ⟨gb380, 0, none⟩ = some (.bool false) := zJ BK380.out 0; have hcz219_1 : w217.cell? ⟨gb380, 1, none⟩ = some (.bool false) := zJ BK380.out 1; have hcz219_2 : w217.cell? ⟨gb380, 2, none⟩ = some (.int .i64 0) := zJ BK380.out 2; have hfz219_0 := zI BK380.out 0; have hfz219_1 := zI BK380.out 1; have hfz219_2 := zI BK380.out 2))
            go_roundg k1
            case measure => have := HK1.out; omega
            case rel => exact ⟨(false), (false), (true), (true), (wrap64 (x9_1 + 1)), (by first | rfl | (simp; done) | (simp [*]; done)), (by first | rfl | (simp; done) | (simp [*]; done)), (by first | rfl | (simp; done) | (simp [*]; done)), (by first | rfl | (simp; done) | (simp [*]; done)), (by first | rfl | (simp; done) | (simp [*]; done)), H', ⟨by have := HK1.out; omega⟩, ⟨by (with_reducible repeat (first | apply Kd.R_alloc | apply Kd.R_drewN | apply Kd.R_drew)); exact Kd.R_mono (Kd.R_far (p := ⟨gb380, 2, none⟩) (Kd.R_far (p := ⟨gb380, 1, none⟩) (Kd.R_far (p := ⟨gb380, 0, none⟩) (Kd.R_mono HO_4.out (fun k_ hk => (⟨hk, hk.2⟩ : _ ∧ k_ ≠ gb380))) (fun _ hk => hk.2) (.bool false)) (fun _ hk => hk.2) (.bool false)) (fun _ hk => hk.2) (.int .i64 ((rd_T36 t376 x9_1).f2))) (fun _ hk => trivial)⟩, ⟨by (with_reducible repeat (first | refine zC ?_ _ | refine zG ?_ | refine zD ?_ _)); refine zL ?_ NB374_380.out _; (with_reducible repeat (first | refine zC ?_ _ | refine zG ?_ | refine zD ?_ _)); refine zL ?_ NB374_380.out _; (with_reducible repeat (first | refine zC ?_ _ | refine zG ?_ | refine zD ?_ _)); refine zL ?_ NB374_380.out _; (with_reducible repeat (first | refine zC ?_ _ | refine zG ?_ | refine zD ?_ _)); exact BK374.out⟩, ⟨by repeat (first | (with_reducible first | exact HB.out | apply zF | apply zA | apply zE | refine zH ?_ GE374.out | refine zH ?_ GE380.out) | exact HB.out)⟩⟩
           ·
            replace c215 := Bool.eq_false_iff.mpr c215
            subst c215
            have H1 : (if false = true then (zX.l0 k1 t376 false false true false (wrap64 (x9_1 + 1))) else (zX.l0 k1 t376 false false true false (wrap64 (x9_1 + 1)))) = some (r1, r2) := by rw [if_neg (show ¬ (false = true) by decide)] at H; exact H
            clear H
            have H := H1
            clear H1
            have H1 : (zX.l0 k1 t376 false false true false (wrap64 (x9_1 + 1))) = some (r1, r2) := by rw [if_neg (show ¬ (false = true) by decide)] at H; exact H
            clear H
            have H := H1
            clear H1
            have H' := zB.mk H
            clear H
            obtain ⟨Ao220, co220, eo220⟩ := Kd.R_slice HO_4.out
            subst eo220
            have p379 : 0 ≤ (x9_1 : Int) := of_decide_eq_true (by first | (with_reducible assumption) | assumption)
            have q379 : x9_1 < (t376.length : Int) := of_decide_eq_true (by first | (with_reducible assumption) | assumption)
            obtain ⟨ad379, e379, hx379_0, hx379_1, hx379_2⟩ := at_T36 (Kd.R_reads' HO_4.out).2.2 x9_1 p379 q379
            (try rw [← Nbq112.out] at hx379_0)
            (try rw [← Nbq153.out] at hx379_0)
            (try rw [← Nbq112.out] at hx379_1)
            (try rw [← Nbq153.out] at hx379_1)
            cases e379
            replace p379 := eq_true p379
            replace q379 := eq_true q379
            go_wp2_with (first | ((with_reducible refine zP (N := 10) rfl ?_); refine zO ?hg (N := 10) ?hd (cs := #[.bool false, .bool false, .int .i64 0]) (t := 36) ?hr ?_; (case hd => rfl); (case hg => rfl); (case hr => first | (go_simp; done) | (go_simp; rfl)); intro gb380 hg w221 hbox hb; have n0_ := zB.mk (Kd.R_below (Kd.R_elderB (by (with_reducible repeat (first | apply Kd.R_alloc | apply Kd.R_drewN | apply Kd.R_drew)); exact HO_4.out) gb380 (Nat.le_of_eq hg.symm)) hb); have n1_ := zB.mk (zN (g := gb374) (o := .cells #[.int .i64 a0_0, .int .i64 a0_1, .slice A0_2 l0_2.length c0_2] 28 (0, 0)) (by (with_reducible repeat (first | refine zC ?_ _ | refine zG ?_ | refine zD ?_ _)); exact BK374.out) hb); have n2_ := zB.mk (zK (by repeat (first | (with_reducible first | exact HB.out | apply zF | apply zA | apply zE | refine zH ?_ GE374.out) | exact HB.out)) hb); have n3_ := zB.mk (hbox); have n4_ := zB.mk ((by rw [hg]; exact (zM (by repeat (first | (with_reducible first | exact HB.out | apply zF | apply zA | apply zE | refine zH ?_ GE374.out) | exact HB.out))) : w.heap.size ≤ gb380)); have n5_ := n4_; have n6_ := zB.mk ((by rw [hg]; exact Nat.ne_of_lt (zQ (by (with_reducible repeat (first | refine zC ?_ _ | refine zG ?_ | refine zD ?_ _)); exact BK374.out)) : gb374 ≠ gb380)); have n7_ := zB.mk n6_.out.symm; clear HO_4; clear BK374; clear HB; have HO_4 := n0_; have BK374 := n1_; have HB := n2_; have BK380 := n3_; have GW380 := n4_; have GE380 := n5_; have NB374_380 := n6_; have NB380_374 := n7_; clear n0_ n1_ n2_ n3_ n4_ n5_ n6_ n7_; clear hb hbox hg; have hnb222 := NB380_374.out; have hnc222 := NB374_380.out; have hcz223_0 : w221.cell? ⟨gb380, 0, none⟩ = some (.bool false) := zJ BK380.out 0; have hcz223_1 : w221.cell? ⟨gb380, 1, none⟩ = some (.bool false) := zJ BK380.out 1; have hcz223_2 : w221.cell? ⟨gb380, 2, none⟩ = some (.int .i64 0) := zJ BK380.out 2; have hfz223_0 := zI BK380.out 0; have hfz223_1 := zI BK380.out 1; have hfz223_2 := zI BK380.out 2))
            go_roundg k1
            case measure => have := HK1.out; omega
            case rel => exact ⟨(false), (false), (true), (false), (wrap64 (x9_1 + 1)), (by first | rfl | (simp; done) | (simp [*]; done)), (by first | rfl | (simp; done) | (simp [*]; done)), (by first | rfl | (simp; done) | (simp [*]; done)), (by first | rfl | (simp; done) | (simp [*]; done)), (by first | rfl | (simp; done) | (simp [*]; done)), H', ⟨by have := HK1.out; omega⟩, ⟨by (with_reducible repeat (first | apply Kd.R_alloc | apply Kd.R_drewN | apply Kd.R_drew)); exact Kd.R_mono (Kd.R_far (p := ⟨gb380, 2, none⟩) (Kd.R_far (p := ⟨gb380, 1, none⟩) (Kd.R_far (p := ⟨gb380, 0, none⟩) (Kd.R_mono HO_4.out (fun k_ hk => (⟨hk, hk.2⟩ : _ ∧ k_ ≠ gb380))) (fun _ hk => hk.2) (.bool false)) (fun _ hk => hk.2) (.bool false)) (fun _ hk => hk.2) (.int .i64 ((rd_T36 t376 x9_1).f2))) (fun _ hk => trivial)⟩, ⟨by (with_reducible repeat (first | refine zC ?_ _ | refine zG ?_ | refine zD ?_ _)); refine zL ?_ NB374_380.out _; (with_reducible repeat (first | refine zC ?_ _ | refine zG ?_ | refine zD ?_ _)); refine zL ?_ NB374_380.out _; (with_reducible repeat (first | refine zC ?_ _ | refine zG ?_ | refine zD ?_ _)); refine zL ?_ NB374_380.out _; (with_reducible repeat (first | refine zC ?_ _ | refine zG ?_ | refine zD ?_ _)); exact BK374.out⟩, ⟨by repeat (first | (with_reducible first | exact HB.out | apply zF | apply zA | apply zE | refine zH ?_ GE374.out | refine zH ?_ GE380.out) | exact HB.out)⟩⟩
          ·
           replace c214 := Bool.eq_false_iff.mpr c214
           subst c214
           have H1 : (if false = true then (if x8_1 = true then (zX.l0 k1 t376 false false (!(false)) true (wrap64 (x9_1 + 1))) else (zX.l0 k1 t376 false false (!(false)) false (wrap64 (x9_1 + 1)))) else (if x8_1 = true then (zX.l0 k1 t376 false false false true (wrap64 (x9_1 + 1))) else (zX.l0 k1 t376 false false false false (wrap64 (x9_1 + 1))))) = some (r1, r2) := by rw [if_neg (show ¬ (false = true) by decide)] at H; exact H
           clear H
           have H := H1
           clear H1
           have H1 : (if x8_1 = true then (zX.l0 k1 t376 false false false true (wrap64 (x9_1 + 1))) else (zX.l0 k1 t376 false false false false (wrap64 (x9_1 + 1)))) = some (r1, r2) := by rw [if_neg (show ¬ (false = true) by decide)] at H; exact H
           clear H
           have H := H1
           clear H1
           by_cases c224 : x8_1 = true
           ·
            subst c224
            have H1 : (zX.l0 k1 t376 false false false true (wrap64 (x9_1 + 1))) = some (r1, r2) := by rw [if_pos rfl] at H; exact H
            clear H
            have H := H1
            clear H1
            have H' := zB.mk H
            clear H
            obtain ⟨Ao225, co225, eo225⟩ := Kd.R_slice HO_4.out
            subst eo225
            have p379 : 0 ≤ (x9_1 : Int) := of_decide_eq_true (by first | (with_reducible assumption) | assumption)
            have q379 : x9_1 < (t376.length : Int) := of_decide_eq_true (by first | (with_reducible assumption) | assumption)
            obtain ⟨ad379, e379, hx379_0, hx379_1, hx379_2⟩ := at_T36 (Kd.R_reads' HO_4.out).2.2 x9_1 p379 q379
            (try rw [← Nbq112.out] at hx379_0)
            (try rw [← Nbq153.out] at hx379_0)
            (try rw [← Nbq112.out] at hx379_1)
            (try rw [← Nbq153.out] at hx379_1)
            cases e379
            replace p379 := eq_true p379
            replace q379 := eq_true q379
            go_wp2_with (first | ((with_reducible refine zP (N := 10) rfl ?_); refine zO ?hg (N := 10) ?hd (cs := #[.bool false, .bool false, .int .i64 0]) (t := 36) ?hr ?_; (case hd => rfl); (case hg => rfl); (case hr => first | (go_simp; done) | (go_simp; rfl)); intro gb380 hg w226 hbox hb; have n0_ := zB.mk (Kd.R_below (Kd.R_elderB (by (with_reducible repeat (first | apply Kd.R_alloc | apply Kd.R_drewN | apply Kd.R_drew)); exact HO_4.out) gb380 (Nat.le_of_eq hg.symm)) hb); have n1_ := zB.mk (zN (g := gb374) (o := .cells #[.int .i64 a0_0, .int .i64 a0_1, .slice A0_2 l0_2.length c0_2] 28 (0, 0)) (by (with_reducible repeat (first | refine zC ?_ _ | refine zG ?_ | refine zD ?_ _)); exact BK374.out) hb); have n2_ := zB.mk (zK (by repeat (first | (with_reducible first | exact HB.out | apply zF | apply zA | apply zE | refine zH ?_ GE374.out) | exact HB.out)) hb); have n3_ := zB.mk (hbox); have n4_ := zB.mk ((by rw [hg]; exact (zM (by repeat (first | (with_reducible first | exact HB.out | apply zF | apply zA | apply zE | refine zH ?_ GE374.out) | exact HB.out))) : w.heap.size ≤ gb380)); have n5_ := n4_; have n6_ := zB.mk ((by rw [hg]; exact Nat.ne_of_lt (zQ (by (with_reducible repeat (first | refine zC ?_ _ | refine zG ?_ | refine zD ?_ _)); exact BK374.out)) : gb374 ≠ gb380)); have n7_ := zB.mk n6_.out.symm; clear HO_4; clear BK374; clear HB; have HO_4 := n0_; have BK374 := n1_; have HB := n2_; have BK380 := n3_; have GW380 := n4_; have GE380 := n5_; have NB374_380 := n6_; have NB380_374 := n7_; clear n0_ n1_ n2_ n3_ n4_ n5_ n6_ n7_; clear hb hbox hg; have hnb227 := NB380_374.out; have hnc227 := NB374_380.out; have hcz228_0 : w226.cell? ⟨gb380, 0, none⟩ = some (.bool false) := zJ BK380.out 0; have hcz228_1 : w226.cell? ⟨gb380, 1, none⟩ = some (.bool false) := zJ BK380.out 1; have hcz228_2 : w226.cell? ⟨gb380, 2, none⟩ = some (.int .i64 0) := zJ BK380.out 2; have hfz228_0 := zI BK380.out 0; have hfz228_1 := zI BK380.out 1; have hfz228_2 := zI BK380.out 2))
            go_roundg k1
            case measure => have := HK1.out; omega
            case rel => exact ⟨(false), (false), (false), (true), (wrap64 (x9_1 + 1)), (by first | rfl | (simp; done) | (simp [*]; done)), (by first | rfl | (simp; done) | (simp [*]; done)), (by first | rfl | (simp; done) | (simp [*]; done)), (by first | rfl | (simp; done) | (simp [*]; done)), (by first | rfl | (simp; done) | (simp [*]; done)), H', ⟨by have := HK1.out; omega⟩, ⟨by (with_reducible repeat (first | apply Kd.R_alloc | apply Kd.R_drewN | apply Kd.R_drew)); exact Kd.R_mono (Kd.R_far (p := ⟨gb380, 2, none⟩) (Kd.R_far (p := ⟨gb380, 1, none⟩) (Kd.R_far (p := ⟨gb380, 0, none⟩) (Kd.R_mono HO_4.out (fun k_ hk => (⟨hk, hk.2⟩ : _ ∧ k_ ≠ gb380))) (fun _ hk => hk.2) (.bool false)) (fun _ hk => hk.2) (.bool false)) (fun _ hk => hk.2) (.int .i64 ((rd_T36 t376 x9_1).f2))) (fun _ hk => trivial)⟩, ⟨by (with_reducible repeat (first | refine zC ?_ _ | refine zG ?_ | refine zD ?_ _)); refine zL ?_ NB374_380.out _; (with_reducible repeat (first | refine zC ?_ _ | refine zG ?_ | refine zD ?_ _)); refine zL ?_ NB374_380.out _; (with_reducible repeat (first | refine zC ?_ _ | refine zG ?_ | refine zD ?_ _)); refine zL ?_ NB374_380.out _; (with_reducible repeat (first | refine zC ?_ _ | refine zG ?_ | refine zD ?_ _)); exact BK374.out⟩, ⟨by repeat (first | (with_reducible first | exact HB.out | apply zF | apply zA | apply zE | refine zH ?_ GE374.out | refine zH ?_ GE380.out) | exact HB.out)⟩⟩
           ·
            replace c224 := Bool.eq_false_iff.mpr c224
            subst c224
            have H1 : (zX.l0 k1 t376 false false false false (wrap64 (x9_1 + 1))) = some (r1, r2) := by rw [if_neg (show ¬ (false = true) by decide)] at H; exact H
            clear H
            have H := H1
            clear H1
            have H' := zB.mk H
            clear H
            obtain ⟨Ao229, co229, eo229⟩ := Kd.R_slice HO_4.out
            subst eo229
            have p379 : 0 ≤ (x9_1 : Int) := of_decide_eq_true (by first | (with_reducible assumption) | assumption)
            have q379 : x9_1 < (t376.length : Int) := of_decide_eq_true (by first | (with_reducible assumption) | assumption)
            obtain ⟨ad379, e379, hx379_0, hx379_1, hx379_2⟩ := at_T36 (Kd.R_reads' HO_4.out).2.2 x9_1 p379 q379
            (try rw [← Nbq112.out] at hx379_0)
            (try rw [← Nbq153.out] at hx379_0)
            (try rw [← Nbq112.out] at hx379_1)
            (try rw [← Nbq153.out] at hx379_1)
            cases e379
            replace p379 := eq_true p379
            replace q379 := eq_true q379
            go_wp2_with (first | ((with_reducible refine zP (N := 10) rfl ?_); refine zO ?hg (N := 10) ?hd (cs := #[.bool false, .bool false, .int .i64 0]) (t := 36) ?hr ?_; (case hd => rfl); (case hg => rfl); (case hr => first | (go_simp; done) | (go_simp; rfl)); intro gb380 hg w230 hbox hb; have n0_ := zB.mk (Kd.R_below (Kd.R_elderB (by (with_reducible repeat (first | apply Kd.R_alloc | apply Kd.R_drewN | apply Kd.R_drew)); exact HO_4.out) gb380 (Nat.le_of_eq hg.symm)) hb); have n1_ := zB.mk (zN (g := gb374) (o := .cells #[.int .i64 a0_0, .int .i64 a0_1, .slice A0_2 l0_2.length c0_2] 28 (0, 0)) (by (with_reducible repeat (first | refine zC ?_ _ | refine zG ?_ | refine zD ?_ _)); exact BK374.out) hb); have n2_ := zB.mk (zK (by repeat (first | (with_reducible first | exact HB.out | apply zF | apply zA | apply zE | refine zH ?_ GE374.out) | exact HB.out)) hb); have n3_ := zB.mk (hbox); have n4_ := zB.mk ((by rw [hg]; exact (zM (by repeat (first | (with_reducible first | exact HB.out | apply zF | apply zA | apply zE | refine zH ?_ GE374.out) | exact HB.out))) : w.heap.size ≤ gb380)); have n5_ := n4_; have n6_ := zB.mk ((by rw [hg]; exact Nat.ne_of_lt (zQ (by (with_reducible repeat (first | refine zC ?_ _ | refine zG ?_ | refine zD ?_ _)); exact BK374.out)) : gb374 ≠ gb380)); have n7_ := zB.mk n6_.out.symm; clear HO_4; clear BK374; clear HB; have HO_4 := n0_; have BK374 := n1_; have HB := n2_; have BK380 := n3_; have GW380 := n4_; have GE380 := n5_; have NB374_380 := n6_; have NB380_374 := n7_; clear n0_ n1_ n2_ n3_ n4_ n5_ n6_ n7_; clear hb hbox hg; have hnb231 := NB380_374.out; have hnc231 := NB374_380.out; have hcz232_0 : w230.cell? ⟨gb380, 0, none⟩ = some (.bool false) := zJ BK380.out 0; have hcz232_1 : w230.cell? ⟨gb380, 1, none⟩ = some (.bool false) := zJ BK380.out 1; have hcz232_2 : w230.cell? ⟨gb380, 2, none⟩ = some (.int .i64 0) := zJ BK380.out 2; have hfz232_0 := zI BK380.out 0; have hfz232_1 := zI BK380.out 1; have hfz232_2 := zI BK380.out 2))
            go_roundg k1
            case measure => have := HK1.out; omega
            case rel => exact ⟨(false), (false), (false), (false), (wrap64 (x9_1 + 1)), (by first | rfl | (simp; done) | (simp [*]; done)), (by first | rfl | (simp; done) | (simp [*]; done)), (by first | rfl | (simp; done) | (simp [*]; done)), (by first | rfl | (simp; done) | (simp [*]; done)), (by first | rfl | (simp; done) | (simp [*]; done)), H', ⟨by have := HK1.out; omega⟩, ⟨by (with_reducible repeat (first | apply Kd.R_alloc | apply Kd.R_drewN | apply Kd.R_drew)); exact Kd.R_mono (Kd.R_far (p := ⟨gb380, 2, none⟩) (Kd.R_far (p := ⟨gb380, 1, none⟩) (Kd.R_far (p := ⟨gb380, 0, none⟩) (Kd.R_mono HO_4.out (fun k_ hk => (⟨hk, hk.2⟩ : _ ∧ k_ ≠ gb380))) (fun _ hk => hk.2) (.bool false)) (fun _ hk => hk.2) (.bool false)) (fun _ hk => hk.2) (.int .i64 ((rd_T36 t376 x9_1).f2))) (fun _ hk => trivial)⟩, ⟨by (with_reducible repeat (first | refine zC ?_ _ | refine zG ?_ | refine zD ?_ _)); refine zL ?_ NB374_380.out _; (with_reducible repeat (first | refine zC ?_ _ | refine zG ?_ | refine zD ?_ _)); refine zL ?_ NB374_380.out _; (with_reducible repeat (first | refine zC ?_ _ | refine zG ?_ | refine zD ?_ _)); refine zL ?_ NB374_380.out _; (with_reducible repeat (first | refine zC ?_ _ | refine zG ?_ | refine zD ?_ _)); exact BK374.out⟩, ⟨by repeat (first | (with_reducible first | exact HB.out | apply zF | apply zA | apply zE | refine zH ?_ GE374.out | refine zH ?_ GE380.out) | exact HB.out)⟩⟩
     ·
      rw [if_neg c12] at H
      exact absurd H (by simp)
    ·
     rw [if_neg c11] at H
     have c11b0 : decide (x9_1 < (t376.length : Int)) = false := decide_eq_false c11
     clear c11
     have HC233 := zB.mk H
     clear H
     obtain ⟨Ao234, co234, eo234⟩ := Kd.R_slice HO_4.out
     subst eo234
     go_upto_region 13 with (fail)
     go_cut [75] (fun v75 wc => ∃ (kq : Nat) (x75_232 : Bool), v75 = .bool x75_232 ∧ zB (zX.j1 kq x5_1 x6_1 x7_1 x8_1 x75_232 = some (r1, r2)) ∧ zB (kq ≤ k1) ∧ zB (wc.heap[gb374]? = some (.cells #[.int .i64 a0_0, .int .i64 a0_1, (.slice A0_2 l0_2.length c0_2)] 28 (0, 0))) ∧ zB (Below w.heap.size w wc))
     case first =>
      have H := HC233.out
      clear HC233
      by_cases c235 : x5_1 = true
      ·
       subst c235
       have H1 : (zX.j1 k1 true x6_1 x7_1 x8_1 x7_1) = some (r1, r2) := by rw [if_pos rfl] at H; exact H
       clear H
       have H := H1
       clear H1
       have H' := zB.mk H
       clear H
       go_wp2
       go_meet
       case rel => exact ⟨_, (x7_1), (by first | rfl | (simp; done) | (simp [*]; done)), H', ⟨by have := HK1.out; first | omega | exact Nat.le_refl _⟩, ⟨by (with_reducible repeat (first | refine zC ?_ _ | refine zG ?_ | refine zD ?_ _)); exact BK374.out⟩, ⟨by repeat (first | (with_reducible first | exact HB.out | apply zF | apply zA | apply zE | refine zH ?_ GE374.out) | exact HB.out)⟩⟩
      ·
       replace c235 := Bool.eq_false_iff.mpr c235
       subst c235
       have H1 : (zX.j1 k1 false x6_1 x7_1 x8_1 false) = some (r1, r2) := by rw [if_neg (show ¬ (false = true) by decide)] at H; exact H
       clear H
       have H := H1
       clear H1
       have H' := zB.mk H
       clear H
       go_wp2
       go_meet
       case rel => exact ⟨_, (false), (by first | rfl | (simp; done) | (simp [*]; done)), H', ⟨by have := HK1.out; first | omega | exact Nat.le_refl _⟩, ⟨by (with_reducible repeat (first | refine zC ?_ _ | refine zG ?_ | refine zD ?_ _)); exact BK374.out⟩, ⟨by repeat (first | (with_reducible first | exact HB.out | apply zF | apply zA | apply zE | refine zH ?_ GE374.out) | exact HB.out)⟩⟩
     case rest =>
      clear HC233
      try clear c1
      try clear q1
      try clear c2
      try clear p2
      try clear p3
      try clear q3
      try clear hx3
      try clear p6
      try clear c11
      try clear c11b0
      try clear q11
      try clear c12
      try clear c14
      try clear c15
      try clear q15
      try clear c16
      try clear c17
      try clear c18
      try clear c19
      try clear c20
      try clear c21
      try clear c22
      try clear c23
      try clear p37
      try clear q37
      try clear hx37
      try clear p64
      try clear q112
      try clear c113
      try clear c144
      try clear c147
      try clear c151
      try clear q153
      try clear c154
      try clear c155
      try clear c156
      try clear c157
      try clear c160
      try clear c164
      try clear c166
      try clear c169
      try clear c173
      try clear c175
      try clear c176
      try clear c179
      try clear c183
      try clear c185
      try clear c188
      try clear c192
      try clear c194
      try clear c195
      try clear c196
      try clear c199
      try clear c203
      try clear c205
      try clear c208
      try clear c212
      try clear c214
      try clear c215
      try clear c218
      try clear c222
      try clear c224
      try clear c227
      try clear c231
      try clear c235
      try clear hcz148_0
      try clear hcz148_1
      try clear hcz148_2
      try clear hcz152_0
      try clear hcz152_1
      try clear hcz152_2
      try clear hcz161_0
      try clear hcz161_1
      try clear hcz161_2
      try clear hcz165_0
      try clear hcz165_1
      try clear hcz165_2
      try clear hcz170_0
      try clear hcz170_1
      try clear hcz170_2
      try clear hcz174_0
      try clear hcz174_1
      try clear hcz174_2
      try clear hcz180_0
      try clear hcz180_1
      try clear hcz180_2
      try clear hcz184_0
      try clear hcz184_1
      try clear hcz184_2
      try clear hcz189_0
      try clear hcz189_1
      try clear hcz189_2
      try clear hcz193_0
      try clear hcz193_1
      try clear hcz193_2
      try clear hcz200_0
      try clear hcz200_1
      try clear hcz200_2
      try clear hcz204_0
      try clear hcz204_1
      try clear hcz204_2
      try clear hcz209_0
      try clear hcz209_1
      try clear hcz209_2
      try clear hcz213_0
      try clear hcz213_1
      try clear hcz213_2
      try clear hcz219_0
      try clear hcz219_1
      try clear hcz219_2
      try clear hcz223_0
      try clear hcz223_1
      try clear hcz223_2
      try clear hcz228_0
      try clear hcz228_1
      try clear hcz228_2
      try clear hcz232_0
      try clear hcz232_1
      try clear hcz232_2
      try clear hfz148_0
      try clear hfz148_1
      try clear hfz148_2
      try clear hfz152_0
      try clear hfz152_1
      try clear hfz152_2
      try clear hfz161_0
      try clear hfz161_1
      try clear hfz161_2
      try clear hfz165_0
      try clear hfz165_1
      try clear hfz165_2
      try clear hfz170_0
      try clear hfz170_1
      try clear hfz170_2
      try clear hfz174_0
      try clear hfz174_1
      try clear hfz174_2
      try clear hfz180_0
      try clear hfz180_1
      try clear hfz180_2
      try clear hfz184_0
      try clear hfz184_1
      try clear hfz184_2
      try clear hfz189_0
      try clear hfz189_1
      try clear hfz189_2
      try clear hfz193_0
      try clear hfz193_1
      try clear hfz193_2
      try clear hfz200_0
      try clear hfz200_1
      try clear hfz200_2
      try clear hfz204_0
      try clear hfz204_1
      try clear hfz204_2
      try clear hfz209_0
      try clear hfz209_1
      try clear hfz209_2
      try clear hfz213_0
      try clear hfz213_1
      try clear hfz213_2
      try clear hfz219_0
      try clear hfz219_1
      try clear hfz219_2
      try clear hfz223_0
      try clear hfz223_1
      try clear hfz223_2
      try clear hfz228_0
      try clear hfz228_1
      try clear hfz228_2
      try clear hfz232_0
      try clear hfz232_1
      try clear hfz232_2
      try clear hx379_0
      try clear hx379_1
      try clear hx379_2
      try clear p379
      try clear q379
      obtain ⟨kq, x75_232, rfl, HA, HJ232, BK374, HB⟩ := hcut
      cases kq with
      | zero => exact absurd HA.out (by simp [zX.j1])
      | succ kj232 =>
       have H := HA.out
       clear HA
       simp only [zX.j1] at H
       by_cases c236 : x75_232 = true
       ·
        subst c236
        have H1 : (some ((⟨#[112, 50, 109, 109]⟩ : ByteArray), 0)) = some (r1, r2) := by rw [if_pos rfl] at H; exact H
        clear H
        have H := H1
        clear H1
        simp only [Option.some.injEq, Prod.mk.injEq] at H
        obtain ⟨rfl, rfl⟩ := H
        go_wp2
        go_ret2
        exact ⟨by first | rfl | (simp [*, errW_none, errW_some] <;> rfl), by repeat (first | (with_reducible first | exact HB.out | apply zF | apply zA | apply zE | refine zH ?_ GE374.out) | exact HB.out)⟩
       ·
        replace c236 := Bool.eq_false_iff.mpr c236
        subst c236
        have H1 : (if x5_1 = true then (some ((⟨#[112, 49, 49, 109]⟩ : ByteArray), 0)) else (if x7_1 = true then (zX.j2 kj232 x6_1 x7_1 x8_1 x8_1) else (zX.j2 kj232 x6_1 x7_1 x8_1 false))) = some (r1, r2) := by rw [if_neg (show ¬ (false = true) by decide)] at H; exact H
        clear H
        have H := H1
        clear H1
        by_cases c237 : x5_1 = true
        ·
         subst c237
         have H1 : (some ((⟨#[112, 49, 49, 109]⟩ : ByteArray), 0)) = some (r1, r2) := by rw [if_pos rfl] at H; exact H
         clear H
         have H := H1
         clear H1
         simp only [Option.some.injEq, Prod.mk.injEq] at H
         obtain ⟨rfl, rfl⟩ := H
         go_wp2
         go_ret2
         exact ⟨by first | rfl | (simp [*, errW_none, errW_some] <;> rfl), by repeat (first | (with_reducible first | exact HB.out | apply zF | apply zA | apply zE | refine zH ?_ GE374.out) | exact HB.out)⟩
        ·
         replace c237 := Bool.eq_false_iff.mpr c237
         subst c237
         have H1 : (if x7_1 = true then (zX.j2 kj232 x6_1 x7_1 x8_1 x8_1) else (zX.j2 kj232 x6_1 x7_1 x8_1 false)) = some (r1, r2) := by rw [if_neg (show ¬ (false = true) by decide)] at H; exact H
         clear H
         have H := H1
         clear H1
         have HC238 := zB.mk H
         clear H
         go_upto_region 17 with (fail)
         go_cut [82] (fun v82 wc => ∃ (kq : Nat) (x82_237 : Bool), v82 = .bool x82_237 ∧ zB (zX.j2 kq x6_1 x7_1 x8_1 x82_237 = some (r1, r2)) ∧ zB (kq ≤ kj232) ∧ zB (wc.heap[gb374]? = some (.cells #[.int .i64 a0_0, .int .i64 a0_1, (.slice A0_2 l0_2.length c0_2)] 28 (0, 0))) ∧ zB (Below w.heap.size w wc))
         case first =>
          have H := HC238.out
          clear HC238
          by_cases c239 : x7_1 = true
          ·
           subst c239
           have H1 : (zX.j2 kj232 x6_1 true x8_1 x8_1) = some (r1, r2) := by rw [if_pos rfl] at H; exact H
           clear H
           have H := H1
           clear H1
           have H' := zB.mk H
           clear H
           go_wp2
           go_meet
           case rel => exact ⟨_, (x8_1), (by first | rfl | (simp; done) | (simp [*]; done)), H', ⟨by have := HK1.out; have := HJ232.out; first | omega | exact Nat.le_refl _⟩, ⟨by (with_reducible repeat (first | refine zC ?_ _ | refine zG ?_ | refine zD ?_ _)); exact BK374.out⟩, ⟨by repeat (first | (with_reducible first | exact HB.out | apply zF | apply zA | apply zE | refine zH ?_ GE374.out) | exact HB.out)⟩⟩
          ·
           replace c239 := Bool.eq_false_iff.mpr c239
           subst c239
           have H1 : (zX.j2 kj232 x6_1 false x8_1 false) = some (r1, r2) := by rw [if_neg (show ¬ (false = true) by decide)] at H; exact H
           clear H
           have H := H1
           clear H1
           have H' := zB.mk H
           clear H
           go_wp2
           go_meet
           case rel => exact ⟨_, (false), (by first | rfl | (simp; done) | (simp [*]; done)), H', ⟨by have := HK1.out; have := HJ232.out; first | omega | exact Nat.le_refl _⟩, ⟨by (with_reducible repeat (first | refine zC ?_ _ | refine zG ?_ | refine zD ?_ _)); exact BK374.out⟩, ⟨by repeat (first | (with_reducible first | exact HB.out | apply zF | apply zA | apply zE | refine zH ?_ GE374.out) | exact HB.out)⟩⟩
         case rest =>
          clear HC238
          try clear c1
          try clear q1
          try clear c2
          try clear p2
          try clear p3
          try clear q3
          try clear hx3
          try clear p6
          try clear c11
          try clear c11b0
          try clear q11
          try clear c12
          try clear c14
          try clear c15
          try clear q15
          try clear c16
          try clear c17
          try clear c18
          try clear c19
          try clear c20
          try clear c21
          try clear c22
          try clear c23
          try clear p37
          try clear q37
          try clear hx37
          try clear p64
          try clear q112
          try clear c113
          try clear c144
          try clear c147
          try clear c151
          try clear q153
          try clear c154
          try clear c155
          try clear c156
          try clear c157
          try clear c160
          try clear c164
          try clear c166
          try clear c169
          try clear c173
          try clear c175
          try clear c176
          try clear c179
          try clear c183
          try clear c185
          try clear c188
          try clear c192
          try clear c194
          try clear c195
          try clear c196
          try clear c199
          try clear c203
          try clear c205
          try clear c208
          try clear c212
          try clear c214
          try clear c215
          try clear c218
          try clear c222
          try clear c224
          try clear c227
          try clear c231
          try clear c235
          try clear c236
          try clear c237
          try clear c239
          try clear hcz148_0
          try clear hcz148_1
          try clear hcz148_2
          try clear hcz152_0
          try clear hcz152_1
          try clear hcz152_2
          try clear hcz161_0
          try clear hcz161_1
          try clear hcz161_2
          try clear hcz165_0
          try clear hcz165_1
          try clear hcz165_2
          try clear hcz170_0
          try clear hcz170_1
          try clear hcz170_2
          try clear hcz174_0
          try clear hcz174_1
          try clear hcz174_2
          try clear hcz180_0
          try clear hcz180_1
          try clear hcz180_2
          try clear hcz184_0
          try clear hcz184_1
          try clear hcz184_2
          try clear hcz189_0
          try clear hcz189_1
          try clear hcz189_2
          try clear hcz193_0
          try clear hcz193_1
          try clear hcz193_2
          try clear hcz200_0
          try clear hcz200_1
          try clear hcz200_2
          try clear hcz204_0
          try clear hcz204_1
          try clear hcz204_2
          try clear hcz209_0
          try clear hcz209_1
          try clear hcz209_2
          try clear hcz213_0
          try clear hcz213_1
          try clear hcz213_2
          try clear hcz219_0
          try clear hcz219_1
          try clear hcz219_2
          try clear hcz223_0
          try clear hcz223_1
          try clear hcz223_2
          try clear hcz228_0
          try clear hcz228_1
          try clear hcz228_2
          try clear hcz232_0
          try clear hcz232_1
          try clear hcz232_2
          try clear hfz148_0
          try clear hfz148_1
          try clear hfz148_2
          try clear hfz152_0
          try clear hfz152_1
          try clear hfz152_2
          try clear hfz161_0
          try clear hfz161_1
          try clear hfz161_2
          try clear hfz165_0
          try clear hfz165_1
          try clear hfz165_2
          try clear hfz170_0
          try clear hfz170_1
          try clear hfz170_2
          try clear hfz174_0
          try clear hfz174_1
          try clear hfz174_2
          try clear hfz180_0
          try clear hfz180_1
          try clear hfz180_2
          try clear hfz184_0
          try clear hfz184_1
          try clear hfz184_2
          try clear hfz189_0
          try clear hfz189_1
          try clear hfz189_2
          try clear hfz193_0
          try clear hfz193_1
          try clear hfz193_2
          try clear hfz200_0
          try clear hfz200_1
          try clear hfz200_2
          try clear hfz204_0
          try clear hfz204_1
          try clear hfz204_2
          try clear hfz209_0
          try clear hfz209_1
          try clear hfz209_2
          try clear hfz213_0
          try clear hfz213_1
          try clear hfz213_2
          try clear hfz219_0
          try clear hfz219_1
          try clear hfz219_2
          try clear hfz223_0
          try clear hfz223_1
          try clear hfz223_2
          try clear hfz228_0
          try clear hfz228_1
          try clear hfz228_2
          try clear hfz232_0
          try clear hfz232_1
          try clear hfz232_2
          try clear hx379_0
          try clear hx379_1
          try clear hx379_2
          try clear p2
          try clear p3
          try clear p37
          try clear p379
          try clear p6
          try clear p64
          try clear q1
          try clear q11
          try clear q112
          try clear q15
          try clear q153
          try clear q3
          try clear q37
          try clear q379
          obtain ⟨kq, x82_237, rfl, HA, HJ237, BK374, HB⟩ := hcut
          cases kq with
          | zero => exact absurd HA.out (by simp [zX.j2])
          | succ kj237 =>
           have H := HA.out
           clear HA
           simp only [zX.j2] at H
           by_cases c240 : x82_237 = true
           ·
            subst c240
            have H1 : (some ((⟨#[112, 50, 109, 103]⟩ : ByteArray), 0)) = some (r1, r2) := by rw [if_pos rfl] at H; exact H
            clear H
            have H := H1
            clear H1
            simp only [Option.some.injEq, Prod.mk.injEq] at H
            obtain ⟨rfl, rfl⟩ := H
            go_wp2
            go_ret2
            exact ⟨by first | rfl | (simp [*, errW_none, errW_some] <;> rfl), by repeat (first | (with_reducible first | exact HB.out | apply zF | apply zA | apply zE | refine zH ?_ GE374.out) | exact HB.out)⟩
           ·
            replace c240 := Bool.eq_false_iff.mpr c240
            subst c240
            have H1 : (if x7_1 = true then (some ((⟨#[112, 49, 109, 49]⟩ : ByteArray), 0)) else (if x8_1 = true then (some ((⟨#[112, 50]⟩ : ByteArray), 0)) else (if x6_1 = true then (some ((⟨#[112, 49, 49, 103]⟩ : ByteArray), 0)) else (some ((⟨#[112, 49]⟩ : ByteArray), 0))))) = some (r1, r2) := by rw [if_neg (show ¬ (false = true) by decide)] at H; exact H
            clear H
            have H := H1
            clear H1
            by_cases c241 : x7_1 = true
            ·
             subst c241
             have H1 : (some ((⟨#[112, 49, 109, 49]⟩ : ByteArray), 0)) = some (r1, r2) := by rw [if_pos rfl] at H; exact H
             clear H
             have H := H1
             clear H1
             simp only [Option.some.injEq, Prod.mk.injEq] at H
             obtain ⟨rfl, rfl⟩ := H
             go_wp2
             go_ret2
             exact ⟨by first | rfl | (simp [*, errW_none, errW_some] <;> rfl), by repeat (first | (with_reducible first | exact HB.out | apply zF | apply zA | apply zE | refine zH ?_ GE374.out) | exact HB.out)⟩
            ·
             replace c241 := Bool.eq_false_iff.mpr c241
             subst c241
             have H1 : (if x8_1 = true then (some ((⟨#[112, 50]⟩ : ByteArray), 0)) else (if x6_1 = true then (some ((⟨#[112, 49, 49, 103]⟩ : ByteArray), 0)) else (some ((⟨#[112, 49]⟩ : ByteArray), 0)))) = some (r1, r2) := by rw [if_neg (show ¬ (false = true) by decide)] at H; exact H
             clear H
             have H := H1
             clear H1
             by_cases c242 : x8_1 = true
             ·
              subst c242
              have H1 : (some ((⟨#[112, 50]⟩ : ByteArray), 0)) = some (r1, r2) := by rw [if_pos rfl] at H; exact H
              clear H
              have H := H1
              clear H1
              simp only [Option.some.injEq, Prod.mk.injEq] at H
              obtain ⟨rfl, rfl⟩ := H
              go_wp2
              go_ret2
              exact ⟨by first | rfl | (simp [*, errW_none, errW_some] <;> rfl), by repeat (first | (with_reducible first | exact HB.out | apply zF | apply zA | apply zE | refine zH ?_ GE374.out) | exact HB.out)⟩
             ·
              replace c242 := Bool.eq_false_iff.mpr c242
              subst c242
              have H1 : (if x6_1 = true then (some ((⟨#[112, 49, 49, 103]⟩ : ByteArray), 0)) else (some ((⟨#[112, 49]⟩ : ByteArray), 0))) = some (r1, r2) := by rw [if_neg (show ¬ (false = true) by decide)] at H; exact H
              clear H
              have H := H1
              clear H1
              by_cases c243 : x6_1 = true
              ·
               subst c243
               have H1 : (some ((⟨#[112, 49, 49, 103]⟩ : ByteArray), 0)) = some (r1, r2) := by rw [if_pos rfl] at H; exact H
               clear H
               have H := H1
               clear H1
               simp only [Option.some.injEq, Prod.mk.injEq] at H
               obtain ⟨rfl, rfl⟩ := H
               go_wp2
               go_ret2
               exact ⟨by first | rfl | (simp [*, errW_none, errW_some] <;> rfl), by repeat (first | (with_reducible first | exact HB.out | apply zF | apply zA | apply zE | refine zH ?_ GE374.out) | exact HB.out)⟩
              ·
               replace c243 := Bool.eq_false_iff.mpr c243
               subst c243
               have H1 : (some ((⟨#[112, 49]⟩ : ByteArray), 0)) = some (r1, r2) := by rw [if_neg (show ¬ (false = true) by decide)] at H; exact H
               clear H
               have H := H1
               clear H1
               simp only [Option.some.injEq, Prod.mk.injEq] at H
               obtain ⟨rfl, rfl⟩ := H
               go_wp2
               go_ret2
               exact ⟨by first | rfl | (simp [*, errW_none, errW_some] <;> rfl), by repeat (first | (with_reducible first | exact HB.out | apply zF | apply zA | apply zE | refine zH ?_ GE374.out) | exact HB.out)⟩
 ·
  replace c7 := Bool.eq_false_iff.mpr c7
  subst c7
  have H1 : (some ((⟨#[]⟩ : ByteArray), 1)) = some (r1, r2) := by rw [if_neg (show ¬ (false = true) by decide)] at H; exact H
  clear H
  have H := H1
  clear H1
  simp only [Option.some.injEq, Prod.mk.injEq] at H
  obtain ⟨rfl, rfl⟩ := H
  go_wp2
  go_ret2
  exact ⟨by first | rfl | (simp [*, errW_none, errW_some] <;> rfl), by repeat (first | (with_reducible first | exact HB.out | apply zF | apply zA | apply zE | refine zH ?_ GE374.out) | exact HB.out)⟩
end Go.Proofs.Ytjjockhekaccnaa.X
