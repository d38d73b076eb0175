/- Part of the proof of the law FnExactFriezeName: each function of the code computes what its plain function says. No condition of its own. -/
import Derived.Test.YtjjockhekaccnaaCFnExactFriezeNameW2
set_option maxHeartbeats 8000000
set_option maxRecDepth 100000
namespace Go.Proofs.Ytjjockhekaccnaa.X
open Go.RowKit Go.Proofs.YtjjockhekaccnaaW.PrintWords Go.Proofs.YtjjockhekaccnaaW.PrintLast Go.Proofs.YtjjockhekaccnaaW.PrintMore
attribute [local go_sem] max2_int min2_int max_two min_two max_three min_three max_four min_four   -- for this text's walks alone
set_option linter.unusedVariables false
set_option linter.unusedSimpArgs false
theorem zW.calls (k : Nat) (a0_0 : Int) (a0_1 : Int) (A0_2 : Option Addr) (c0_2 : Nat) (l0_2 : List Int) (r1 : ByteArray) (r2 : Int) (w : World) (hr0_2 : Kd.C (Kd.int .i64) w A0_2 l0_2.length l0_2) (hc0_2 : l0_2.length ≤ c0_2) (h : zW.f k a0_0 a0_1 l0_2 = some (r1, r2)) :
  Calls Try.prog 28 #[.agg #[.int .i64 a0_0, .int .i64 a0_1, .slice A0_2 l0_2.length c0_2]] w fun e w' => e = .returned (.tuple #[.string r1, .int .i64 r2]) ∧ Below w.heap.size w w' := by
 have hu28 := Try.underlying28
 have hu36 := Try.underlying36
 have HR0_2 := zB.mk hr0_2
 have HC0_2 := zB.mk hc0_2
 clear hr0_2 hc0_2
 have HB := zB.mk (Below.refl w.heap.size w)
 have H : ((yW.f a0_0 a0_1 l0_2).bind fun t392 => (if t392 = true then ((zY.f k a0_0 a0_1 l0_2).bind fun t393 => (zW.l0 k false false false false t393 (t393.length : Int) 0)) else (some ((⟨#[]⟩ : ByteArray), 1)))) = some (r1, r2) := h
 clear h
 replace H := Option.bind_eq_some_iff.mp H
 obtain ⟨t392, A20, H⟩ := H
 replace H : (if t392 = true then ((zY.f k a0_0 a0_1 l0_2).bind fun t393 => (zW.l0 k false false false false t393 (t393.length : Int) 0)) else (some ((⟨#[]⟩ : ByteArray), 1))) = some (r1, r2) := H
 have A2 := zB.mk A20
 clear A20
 have HX3 := zB.mk H
 clear H
 go_enter Try.func28, Try.ntmps28
 go_upto_if 12 with (first | ((with_reducible refine zP (N := 1) rfl ?_); refine zO ?hg (N := 1) ?hd (cs := #[.int .i64 a0_0, .int .i64 a0_1, .slice A0_2 l0_2.length c0_2]) (t := 28) ?hr ?_; (case hd => rfl); (case hg => rfl); (case hr => first | (go_simp; done) | (go_simp; rfl)); intro gb391 hg w4 hbox hb; have n0_ := zB.mk (zK (by repeat (first | (with_reducible first | exact HB.out | apply zF | apply zA | apply zE) | exact HB.out)) hb); have n1_ := zB.mk (hbox); have n2_ := zB.mk ((by rw [hg]; exact (zM (by repeat (first | (with_reducible first | exact HB.out | apply zF | apply zA | apply zE) | exact HB.out))) : w.heap.size ≤ gb391)); have n3_ := n2_; clear HB; have HB := n0_; have BK391 := n1_; have GW391 := n2_; have GE391 := n3_; clear n0_ n1_ n2_ n3_; clear hb hbox hg; have hcz5_0 : w4.cell? ⟨gb391, 0, none⟩ = some (.int .i64 a0_0) := zJ BK391.out 0; have hcz5_1 : w4.cell? ⟨gb391, 1, none⟩ = some (.int .i64 a0_1) := zJ BK391.out 1; have hcz5_2 : w4.cell? ⟨gb391, 2, none⟩ = some (.slice A0_2 l0_2.length c0_2) := zJ BK391.out 2; have hfz5_0 := zI BK391.out 0; have hfz5_1 := zI BK391.out 1; have hfz5_2 := zI BK391.out 2) | ((with_reducible refine zR (f := 47) rfl ?_); refine zV (some 11) rfl rfl Try.func47 (by kernel_rfl) rfl #[.agg #[.int .i64 a0_0, .int .i64 a0_1, .slice A0_2 l0_2.length c0_2]] rfl (by (try simp only [List.map_toArray, List.map_cons, List.map_nil]); first | done | rfl) ?_; (with_reducible refine (yW.calls a0_0 a0_1 _ _ l0_2 t392 _ ?side1 ?side2 A2.out).mono ?_); (case side1 => repeat (first | exact (Kd.C_below HR0_2.out HB.out) | (with_reducible refine Kd.C_alloc ?_ _) | (with_reducible refine Kd.C_drewN ?_ _) | (with_reducible refine Kd.C_drew ?_))); (case side2 => exact HC0_2.out); rintro e w6 ⟨rfl, hb⟩; refine ⟨_, rfl, ?_⟩; have n0_ := zB.mk (zN (g := gb391) (o := .cells #[.int .i64 a0_0, .int .i64 a0_1, .slice A0_2 l0_2.length c0_2] 28 (0, 0)) (by (with_reducible repeat (first | refine zC ?_ _ | refine zG ?_ | refine zD ?_ _)); exact BK391.out) hb); have n1_ := zB.mk (zK (by repeat (first | (with_reducible first | exact HB.out | apply zF | apply zA | apply zE | refine zH ?_ GE391.out) | exact HB.out)) hb); clear BK391; clear HB; have BK391 := n0_; have HB := n1_; clear n0_ n1_; (try clear hb)))
 have H := HX3.out
 clear HX3
 by_cases c7 : t392 = true
 ·
  subst c7
  have H1 : ((zY.f k a0_0 a0_1 l0_2).bind fun t393 => (zW.l0 k false false false false t393 (t393.length : Int) 0)) = some (r1, r2) := by rw [if_pos rfl] at H; exact H
  clear H
  have H := H1
  clear H1
  replace H := Option.bind_eq_some_iff.mp H
  obtain ⟨t393, A80, H⟩ := H
  replace H : (zW.l0 k false false false false t393 (t393.length : Int) 0) = some (r1, r2) := H
  have A8 := zB.mk A80
  clear A80
  have H' := zB.mk H
  clear H
  have hcz9_0 : w6.cell? ⟨gb391, 0, none⟩ = some (.int .i64 a0_0) := zJ BK391.out 0
  have hcz9_1 : w6.cell? ⟨gb391, 1, none⟩ = some (.int .i64 a0_1) := zJ BK391.out 1
  have hcz9_2 : w6.cell? ⟨gb391, 2, none⟩ = some (.slice A0_2 l0_2.length c0_2) := zJ BK391.out 2
  have hfz9_0 := zI BK391.out 0
  have hfz9_1 := zI BK391.out 1
  have hfz9_2 := zI BK391.out 2
  go_wp2_with (first | ((with_reducible refine zR (f := 75) rfl ?_); refine zV (some 14) rfl rfl Try.func75 (by kernel_rfl) rfl #[.agg #[.int .i64 a0_0, .int .i64 a0_1, .slice A0_2 l0_2.length c0_2]] rfl (by (try simp only [List.map_toArray, List.map_cons, List.map_nil]); first | done | rfl) ?_; (with_reducible refine (zY.calls k a0_0 a0_1 _ _ l0_2 t393 _ ?side1 ?side2 A8.out).mono ?_); (case side1 => repeat (first | exact (Kd.C_below HR0_2.out HB.out) | (with_reducible refine Kd.C_alloc ?_ _) | (with_reducible refine Kd.C_drewN ?_ _) | (with_reducible refine Kd.C_drew ?_))); (case side2 => exact HC0_2.out); rintro e w10 ⟨v394, rfl, ho0, hb⟩; refine ⟨_, rfl, ?_⟩; have n0_ := zB.mk (Kd.R_lower ho0 (zM (by repeat (first | (with_reducible first | exact HB.out | apply zF | apply zA | apply zE | refine zH ?_ GE391.out) | exact HB.out)))); have n1_ := zB.mk (zN (g := gb391) (o := .cells #[.int .i64 a0_0, .int .i64 a0_1, .slice A0_2 l0_2.length c0_2] 28 (0, 0)) (by (with_reducible repeat (first | refine zC ?_ _ | refine zG ?_ | refine zD ?_ _)); exact BK391.out) hb); have n2_ := zB.mk (zK (by repeat (first | (with_reducible first | exact HB.out | apply zF | apply zA | apply zE | refine zH ?_ GE391.out) | exact HB.out)) hb); clear BK391; clear HB; have HO395 := n0_; have BK391 := n1_; have HB := n2_; clear n0_ n1_ n2_; (try clear hb); (try clear ho0); obtain ⟨Ao11, co11, eo11⟩ := Kd.R_slice HO395.out; subst eo11))
  go_loopg [4, 5, 6, 7, 16] k (fun kq v4 v5 v6 v7 v16 w' => ∃ (x4_1 : Bool) (x5_1 : Bool) (x6_1 : Bool) (x7_1 : Bool) (x16_1 : Int), v4 = .bool x4_1 ∧ v5 = .bool x5_1 ∧ v6 = .bool x6_1 ∧ v7 = .bool x7_1 ∧ v16 = .int .i64 x16_1 ∧ zB (zW.l0 kq x4_1 x5_1 x6_1 x7_1 t393 (t393.length : Int) x16_1 = some (r1, r2)) ∧ zB (kq ≤ k) ∧ zB (Kd.R k36 36 w' w.heap.size (fun _ => True) (.slice Ao11 t393.length co11) t393) ∧ zB (w'.heap[gb391]? = some (.cells #[.int .i64 a0_0, .int .i64 a0_1, (.slice A0_2 l0_2.length c0_2)] 28 (0, 0))) ∧ zB (Below w.heap.size w w'))
  case atStart => exact ⟨(false), (false), (false), (false), (0), (by first | rfl | (simp; done) | (simp [*]; done)), (by first | rfl | (simp; done) | (simp [*]; done)), (by first | rfl | (simp; done) | (simp [*]; done)), (by first | rfl | (simp; done) | (simp [*]; done)), (by first | rfl | (simp; done) | (simp [*]; done)), H', ⟨Nat.le_refl _⟩, ⟨by (with_reducible repeat (first | apply Kd.R_alloc | apply Kd.R_drewN | apply Kd.R_drew)); exact HO395.out⟩, ⟨by (with_reducible repeat (first | refine zC ?_ _ | refine zG ?_ | refine zD ?_ _)); exact BK391.out⟩, ⟨by repeat (first | (with_reducible first | exact HB.out | apply zF | apply zA | apply zE | refine zH ?_ GE391.out) | exact HB.out)⟩⟩
  case round =>
   clear H'
   try clear c2
   try clear p2
   try clear c4
   try clear c7
   try clear hcz5_0
   try clear hcz5_1
   try clear hcz5_2
   try clear hcz9_0
   try clear hcz9_1
   try clear hcz9_2
   try clear hfz5_0
   try clear hfz5_1
   try clear hfz5_2
   try clear hfz9_0
   try clear hfz9_1
   try clear hfz9_2
   obtain ⟨x4_1, x5_1, x6_1, x7_1, x16_1, rfl, rfl, rfl, rfl, rfl, HA, HK1, HO_14, BK391, HB⟩ := hrel
   cases gk with
   | zero => exact absurd HA.out (by simp [zW.l0])
   | succ k1 =>
    have H := HA.out
    clear HA
    simp only [zW.l0] at H
    by_cases c12 : x16_1 < (t393.length : Int)
    ·
     rw [if_pos c12] at H
     have c12b0 : decide (x16_1 < (t393.length : Int)) = true := decide_eq_true c12
     clear c12
     by_cases c13 : 0 ≤ x16_1
     ·
      rw [if_pos c13] at H
      have c13b0 : decide (0 ≤ x16_1) = true := decide_eq_true c13
      clear c13
      by_cases c14 : x16_1 < (t393.length : Int)
      ·
       rw [if_pos c14] at H
       have c14b0 : decide (x16_1 < (t393.length : Int)) = true := decide_eq_true c14
       clear c14
       by_cases c15 : x4_1 = true
       ·
        subst c15
        have H1 : (if x5_1 = true then (if x6_1 = true then (if x7_1 = true then (zW.l0 k1 true true true true t393 (t393.length : Int) (wrap64 (x16_1 + 1))) else (if (rd_T36 t393 x16_1).f0 = true then (zW.l0 k1 true true true ((rd_T36 t393 x16_1).f1) t393 (t393.length : Int) (wrap64 (x16_1 + 1))) else (zW.l0 k1 true true true false t393 (t393.length : Int) (wrap64 (x16_1 + 1))))) else (if (rd_T36 t393 x16_1).f0 = true then (if x7_1 = true then (zW.l0 k1 true true (!((rd_T36 t393 x16_1).f1)) true t393 (t393.length : Int) (wrap64 (x16_1 + 1))) else (zW.l0 k1 true true (!((rd_T36 t393 x16_1).f1)) ((rd_T36 t393 x16_1).f1) t393 (t393.length : Int) (wrap64 (x16_1 + 1)))) else (if x7_1 = true then (zW.l0 k1 true true false true t393 (t393.length : Int) (wrap64 (x16_1 + 1))) else (zW.l0 k1 true true false false t393 (t393.length : Int) (wrap64 (x16_1 + 1)))))) else (if ((rd_T36 t393 x16_1).f0 = true) then (if x6_1 = true then (if x7_1 = true then (zW.l0 k1 true false true true t393 (t393.length : Int) (wrap64 (x16_1 + 1))) else (if (rd_T36 t393 x16_1).f0 = true then (zW.l0 k1 true false true ((rd_T36 t393 x16_1).f1) t393 (t393.length : Int) (wrap64 (x16_1 + 1))) else (zW.l0 k1 true false true false t393 (t393.length : Int) (wrap64 (x16_1 + 1))))) else (if (rd_T36 t393 x16_1).f0 = true then (if x7_1 = true then (zW.l0 k1 true false (!((rd_T36 t393 x16_1).f1)) true t393 (t393.length : Int) (wrap64 (x16_1 + 1))) else (zW.l0 k1 true false (!((rd_T36 t393 x16_1).f1)) ((rd_T36 t393 x16_1).f1) t393 (t393.length : Int) (wrap64 (x16_1 + 1)))) else (if x7_1 = true then (zW.l0 k1 true false false true t393 (t393.length : Int) (wrap64 (x16_1 + 1))) else (zW.l0 k1 true false false false t393 (t393.length : Int) (wrap64 (x16_1 + 1)))))) else (if (rd_T36 t393 x16_1).f1 = true then (if x6_1 = true then (if x7_1 = true then (zW.l0 k1 true (((rd_T36 t393 x16_1).f2) != 0) true true t393 (t393.length : Int) (wrap64 (x16_1 + 1))) else (if (rd_T36 t393 x16_1).f0 = true then (zW.l0 k1 true (((rd_T36 t393 x16_1).f2) != 0) true ((rd_T36 t393 x16_1).f1) t393 (t393.length : Int) (wrap64 (x16_1 + 1))) else (zW.l0 k1 true (((rd_T36 t393 x16_1).f2) != 0) true false t393 (t393.length : Int) (wrap64 (x16_1 + 1))))) else (if (rd_T36 t393 x16_1).f0 = true then (if x7_1 = true then (zW.l0 k1 true (((rd_T36 t393 x16_1).f2) != 0) (!((rd_T36 t393 x16_1).f1)) true t393 (t393.length : Int) (wrap64 (x16_1 + 1))) else (zW.l0 k1 true (((rd_T36 t393 x16_1).f2) != 0) (!((rd_T36 t393 x16_1).f1)) ((rd_T36 t393 x16_1).f1) t393 (t393.length : Int) (wrap64 (x16_1 + 1)))) else (if x7_1 = true then (zW.l0 k1 true (((rd_T36 t393 x16_1).f2) != 0) false true t393 (t393.length : Int) (wrap64 (x16_1 + 1))) else (zW.l0 k1 true (((rd_T36 t393 x16_1).f2) != 0) false false t393 (t393.length : Int) (wrap64 (x16_1 + 1)))))) else (if x6_1 = true then (if x7_1 = true then (zW.l0 k1 true false true true t393 (t393.length : Int) (wrap64 (x16_1 + 1))) else (if (rd_T36 t393 x16_1).f0 = true then (zW.l0 k1 true false true ((rd_T36 t393 x16_1).f1) t393 (t393.length : Int) (wrap64 (x16_1 + 1))) else (zW.l0 k1 true false true false t393 (t393.length : Int) (wrap64 (x16_1 + 1))))) else (if (rd_T36 t393 x16_1).f0 = true then (if x7_1 = true then (zW.l0 k1 true false (!((rd_T36 t393 x16_1).f1)) true t393 (t393.length : Int) (wrap64 (x16_1 + 1))) else (zW.l0 k1 true false (!((rd_T36 t393 x16_1).f1)) ((rd_T36 t393 x16_1).f1) t393 (t393.length : Int) (wrap64 (x16_1 + 1)))) else (if x7_1 = true then (zW.l0 k1 true false false true t393 (t393.length : Int) (wrap64 (x16_1 + 1))) else (zW.l0 k1 true false false false t393 (t393.length : Int) (wrap64 (x16_1 + 1))))))))) = some (r1, r2) := by rw [if_pos rfl] at H; exact H
        clear H
        have H := H1
        clear H1
        by_cases c16 : x5_1 = true
        ·
         subst c16
         have H1 : (if x6_1 = true then (if x7_1 = true then (zW.l0 k1 true true true true t393 (t393.length : Int) (wrap64 (x16_1 + 1))) else (if (rd_T36 t393 x16_1).f0 = true then (zW.l0 k1 true true true ((rd_T36 t393 x16_1).f1) t393 (t393.length : Int) (wrap64 (x16_1 + 1))) else (zW.l0 k1 true true true false t393 (t393.length : Int) (wrap64 (x16_1 + 1))))) else (if (rd_T36 t393 x16_1).f0 = true then (if x7_1 = true then (zW.l0 k1 true true (!((rd_T36 t393 x16_1).f1)) true t393 (t393.length : Int) (wrap64 (x16_1 + 1))) else (zW.l0 k1 true true (!((rd_T36 t393 x16_1).f1)) ((rd_T36 t393 x16_1).f1) t393 (t393.length : Int) (wrap64 (x16_1 + 1)))) else (if x7_1 = true then (zW.l0 k1 true true false true t393 (t393.length : Int) (wrap64 (x16_1 + 1))) else (zW.l0 k1 true true false false t393 (t393.length : Int) (wrap64 (x16_1 + 1)))))) = some (r1, r2) := by rw [if_pos rfl] at H; exact H
         clear H
         have H := H1
         clear H1
         by_cases c17 : x6_1 = true
         ·
          subst c17
          have H1 : (if x7_1 = true then (zW.l0 k1 true true true true t393 (t393.length : Int) (wrap64 (x16_1 + 1))) else (if (rd_T36 t393 x16_1).f0 = true then (zW.l0 k1 true true true ((rd_T36 t393 x16_1).f1) t393 (t393.length : Int) (wrap64 (x16_1 + 1))) else (zW.l0 k1 true true true false t393 (t393.length : Int) (wrap64 (x16_1 + 1))))) = some (r1, r2) := by rw [if_pos rfl] at H; exact H
          clear H
          have H := H1
          clear H1
          by_cases c18 : x7_1 = true
          ·
           subst c18
           have H1 : (zW.l0 k1 true true true true t393 (t393.length : Int) (wrap64 (x16_1 + 1))) = some (r1, r2) := by rw [if_pos rfl] at H; exact H
           clear H
           have H := H1
           clear H1
           have H' := zB.mk H
           clear H
           have p396 : 0 ≤ (x16_1 : Int) := of_decide_eq_true (by first | (with_reducible assumption) | assumption)
           have q396 : x16_1 < (t393.length : Int) := of_decide_eq_true (by first | (with_reducible assumption) | assumption)
           obtain ⟨ad396, e396, hx396_0, hx396_1, hx396_2⟩ := at_T36 (Kd.R_reads' HO_14.out).2.2 x16_1 p396 q396
           cases e396
           replace p396 := eq_true p396
           replace q396 := eq_true q396
           go_wp2_with (first | ((with_reducible refine zP (N := 9) rfl ?_); refine zO ?hg (N := 9) ?hd (cs := #[.bool false, .bool false, .int .i64 0]) (t := 36) ?hr ?_; (case hd => rfl); (case hg => rfl); (case hr => first | (go_simp; done) | (go_simp; rfl)); intro gb397 hg w19 hbox hb; have n0_ := zB.mk (Kd.R_below (Kd.R_elderB (by (with_reducible repeat (first | apply Kd.R_alloc | apply Kd.R_drewN | apply Kd.R_drew)); exact HO_14.out) gb397 (Nat.le_of_eq hg.symm)) hb); have n1_ := zB.mk (zN (g := gb391) (o := .cells #[.int .i64 a0_0, .int .i64 a0_1, .slice A0_2 l0_2.length c0_2] 28 (0, 0)) (by (with_reducible repeat (first | refine zC ?_ _ | refine zG ?_ | refine zD ?_ _)); exact BK391.out) hb); have n2_ := zB.mk (zK (by repeat (first | (with_reducible first | exact HB.out | apply zF | apply zA | apply zE | refine zH ?_ GE391.out) | exact HB.out)) hb); have n3_ := zB.mk (hbox); have n4_ := zB.mk ((by rw [hg]; exact (zM (by repeat (first | (with_reducible first | exact HB.out | apply zF | apply zA | apply zE | refine zH ?_ GE391.out) | exact HB.out))) : w.heap.size ≤ gb397)); have n5_ := n4_; have n6_ := zB.mk ((by rw [hg]; exact Nat.ne_of_lt (zQ (by (with_reducible repeat (first | refine zC ?_ _ | refine zG ?_ | refine zD ?_ _)); exact BK391.out)) : gb391 ≠ gb397)); have n7_ := zB.mk n6_.out.symm; clear HO_14; clear BK391; clear HB; have HO_14 := n0_; have BK391 := n1_; have HB := n2_; have BK397 := n3_; have GW397 := n4_; have GE397 := n5_; have NB391_397 := n6_; have NB397_391 := n7_; clear n0_ n1_ n2_ n3_ n4_ n5_ n6_ n7_; clear hb hbox hg; have hnb20 := NB397_391.out; have hnc20 := NB391_397.out; have hcz21_0 : w19.cell? ⟨gb397, 0, none⟩ = some (.bool false) := zJ BK397.out 0; have hcz21_1 : w19.cell? ⟨gb397, 1, none⟩ = some (.bool false) := zJ BK397.out 1; have hcz21_2 : w19.cell? ⟨gb397, 2, none⟩ = some (.int .i64 0) := zJ BK397.out 2; have hfz21_0 := zI BK397.out 0; have hfz21_1 := zI BK397.out 1; have hfz21_2 := zI BK397.out 2))
           go_roundg k1
           case measure => have := HK1.out; omega
           case rel => exact ⟨(true), (true), (true), (true), (wrap64 (x16_1 + 1)), (by first | rfl | (simp; done) | (simp [*]; done)), (by first | rfl | (simp; done) | (simp [*]; done)), (by first | rfl | (simp; done) | (simp [*]; done)), (by first | rfl | (simp; done) | (simp [*]; done)), (by first | rfl | (simp; done) | (simp [*]; done)), H', ⟨by have := HK1.out; omega⟩, ⟨by (with_reducible repeat (first | apply Kd.R_alloc | apply Kd.R_drewN | apply Kd.R_drew)); exact Kd.R_mono (Kd.R_far (p := ⟨gb397, 2, none⟩) (Kd.R_far (p := ⟨gb397, 1, none⟩) (Kd.R_far (p := ⟨gb397, 0, none⟩) (Kd.R_mono HO_14.out (fun k_ hk => (⟨hk, hk.2⟩ : _ ∧ k_ ≠ gb397))) (fun _ hk => hk.2) (.bool ((rd_T36 t393 x16_1).f0))) (fun _ hk => hk.2) (.bool ((rd_T36 t393 x16_1).f1))) (fun _ hk => hk.2) (.int .i64 ((rd_T36 t393 x16_1).f2))) (fun _ hk => trivial)⟩, ⟨by (with_reducible repeat (first | refine zC ?_ _ | refine zG ?_ | refine zD ?_ _)); refine zL ?_ NB391_397.out _; (with_reducible repeat (first | refine zC ?_ _ | refine zG ?_ | refine zD ?_ _)); refine zL ?_ NB391_397.out _; (with_reducible repeat (first | refine zC ?_ _ | refine zG ?_ | refine zD ?_ _)); refine zL ?_ NB391_397.out _; (with_reducible repeat (first | refine zC ?_ _ | refine zG ?_ | refine zD ?_ _)); exact BK391.out⟩, ⟨by repeat (first | (with_reducible first | exact HB.out | apply zF | apply zA | apply zE | refine zH ?_ GE391.out | refine zH ?_ GE397.out) | exact HB.out)⟩⟩
          ·
           replace c18 := Bool.eq_false_iff.mpr c18
           subst c18
           have H1 : (if (rd_T36 t393 x16_1).f0 = true then (zW.l0 k1 true true true ((rd_T36 t393 x16_1).f1) t393 (t393.length : Int) (wrap64 (x16_1 + 1))) else (zW.l0 k1 true true true false t393 (t393.length : Int) (wrap64 (x16_1 + 1)))) = some (r1, r2) := by rw [if_neg (show ¬ (false = true) by decide)] at H; exact H
           clear H
           have H := H1
           clear H1
           obtain ⟨bq22, hbq22⟩ : ∃ b_ : Bool, b_ = ((rd_T36 t393 x16_1).f0) := ⟨_, rfl⟩
           replace H : (if bq22 = true then (zW.l0 k1 true true true ((rd_T36 t393 x16_1).f1) t393 (t393.length : Int) (wrap64 (x16_1 + 1))) else (zW.l0 k1 true true true false t393 (t393.length : Int) (wrap64 (x16_1 + 1)))) = some (r1, r2) := by rw [← hbq22] at H; exact H
           have Nbq22 := zB.mk hbq22
           clear hbq22
           by_cases c23 : bq22 = true
           ·
            subst c23
            have H1 : (zW.l0 k1 true true true ((rd_T36 t393 x16_1).f1) t393 (t393.length : Int) (wrap64 (x16_1 + 1))) = some (r1, r2) := by rw [if_pos rfl] at H; exact H
            clear H
            have H := H1
            clear H1
            have H' := zB.mk H
            clear H
            have p396 : 0 ≤ (x16_1 : Int) := of_decide_eq_true (by first | (with_reducible assumption) | assumption)
            have q396 : x16_1 < (t393.length : Int) := of_decide_eq_true (by first | (with_reducible assumption) | assumption)
            obtain ⟨ad396, e396, hx396_0, hx396_1, hx396_2⟩ := at_T36 (Kd.R_reads' HO_14.out).2.2 x16_1 p396 q396
            (try rw [← Nbq22.out] at hx396_0)
            (try rw [← Nbq22.out] at hx396_1)
            cases e396
            replace p396 := eq_true p396
            replace q396 := eq_true q396
            go_wp2_with (first | ((with_reducible refine zP (N := 9) rfl ?_); refine zO ?hg (N := 9) ?hd (cs := #[.bool false, .bool false, .int .i64 0]) (t := 36) ?hr ?_; (case hd => rfl); (case hg => rfl); (case hr => first | (go_simp; done) | (go_simp; rfl)); intro gb397 hg w24 hbox hb; have n0_ := zB.mk (Kd.R_below (Kd.R_elderB (by (with_reducible repeat (first | apply Kd.R_alloc | apply Kd.R_drewN | apply Kd.R_drew)); exact HO_14.out) gb397 (Nat.le_of_eq hg.symm)) hb); have n1_ := zB.mk (zN (g := gb391) (o := .cells #[.int .i64 a0_0, .int .i64 a0_1, .slice A0_2 l0_2.length c0_2] 28 (0, 0)) (by (with_reducible repeat (first | refine zC ?_ _ | refine zG ?_ | refine zD ?_ _)); exact BK391.out) hb); have n2_ := zB.mk (zK (by repeat (first | (with_reducible first | exact HB.out | apply zF | apply zA | apply zE | refine zH ?_ GE391.out) | exact HB.out)) hb); have n3_ := zB.mk (hbox); have n4_ := zB.mk ((by rw [hg]; exact (zM (by repeat (first | (with_reducible first | exact HB.out | apply zF | apply zA | apply zE | refine zH ?_ GE391.out) | exact HB.out))) : w.heap.size ≤ gb397)); have n5_ := n4_; have n6_ := zB.mk ((by rw [hg]; exact Nat.ne_of_lt (zQ (by (with_reducible repeat (first | refine zC ?_ _ | refine zG ?_ | refine zD ?_ _)); exact BK391.out)) : gb391 ≠ gb397)); have n7_ := zB.mk n6_.out.symm; clear HO_14; clear BK391; clear HB; have HO_14 := n0_; have BK391 := n1_; have HB := n2_; have BK397 := n3_; have GW397 := n4_; have GE397 := n5_; have NB391_397 := n6_; have NB397_391 := n7_; clear n0_ n1_ n2_ n3_ n4_ n5_ n6_ n7_; clear hb hbox hg; have hnb25 := NB397_391.out; have hnc25 := NB391_397.out; have hcz26_0 : w24.cell? ⟨gb397, 0, none⟩ = some (.bool false) := zJ BK397.out 0; have hcz26_1 : w24.cell? ⟨gb397, 1, none⟩ = some (.bool false) := zJ BK397.out 1; have hcz26_2 : w24.cell? ⟨gb397, 2, none⟩ = some (.int .i64 0) := zJ BK397.out 2; have hfz26_0 := zI BK397.out 0; have hfz26_1 := zI BK397.out 1; have hfz26_2 := zI BK397.out 2))
            go_roundg k1
            case measure => have := HK1.out; omega
            case rel => exact ⟨(true), (true), (true), ((rd_T36 t393 x16_1).f1), (wrap64 (x16_1 + 1)), (by first | rfl | (simp; done) | (simp [*]; done)), (by first | rfl | (simp; done) | (simp [*]; done)), (by first | rfl | (simp; done) | (simp [*]; done)), (by first | rfl | (simp; done) | (simp [*]; done)), (by first | rfl | (simp; done) | (simp [*]; done)), H', ⟨by have := HK1.out; omega⟩, ⟨by (with_reducible repeat (first | apply Kd.R_alloc | apply Kd.R_drewN | apply Kd.R_drew)); exact Kd.R_mono (Kd.R_far (p := ⟨gb397, 2, none⟩) (Kd.R_far (p := ⟨gb397, 1, none⟩) (Kd.R_far (p := ⟨gb397, 0, none⟩) (Kd.R_mono HO_14.out (fun k_ hk => (⟨hk, hk.2⟩ : _ ∧ k_ ≠ gb397))) (fun _ hk => hk.2) (.bool true)) (fun _ hk => hk.2) (.bool ((rd_T36 t393 x16_1).f1))) (fun _ hk => hk.2) (.int .i64 ((rd_T36 t393 x16_1).f2))) (fun _ hk => trivial)⟩, ⟨by (with_reducible repeat (first | refine zC ?_ _ | refine zG ?_ | refine zD ?_ _)); refine zL ?_ NB391_397.out _; (with_reducible repeat (first | refine zC ?_ _ | refine zG ?_ | refine zD ?_ _)); refine zL ?_ NB391_397.out _; (with_reducible repeat (first | refine zC ?_ _ | refine zG ?_ | refine zD ?_ _)); refine zL ?_ NB391_397.out _; (with_reducible repeat (first | refine zC ?_ _ | refine zG ?_ | refine zD ?_ _)); exact BK391.out⟩, ⟨by repeat (first | (with_reducible first | exact HB.out | apply zF | apply zA | apply zE | refine zH ?_ GE391.out | refine zH ?_ GE397.out) | exact HB.out)⟩⟩
           ·
            replace c23 := Bool.eq_false_iff.mpr c23
            subst c23
            have H1 : (zW.l0 k1 true true true false t393 (t393.length : Int) (wrap64 (x16_1 + 1))) = some (r1, r2) := by rw [if_neg (show ¬ (false = true) by decide)] at H; exact H
            clear H
            have H := H1
            clear H1
            have H' := zB.mk H
            clear H
            have p396 : 0 ≤ (x16_1 : Int) := of_decide_eq_true (by first | (with_reducible assumption) | assumption)
            have q396 : x16_1 < (t393.length : Int) := of_decide_eq_true (by first | (with_reducible assumption) | assumption)
            obtain ⟨ad396, e396, hx396_0, hx396_1, hx396_2⟩ := at_T36 (Kd.R_reads' HO_14.out).2.2 x16_1 p396 q396
            (try rw [← Nbq22.out] at hx396_0)
            (try rw [← Nbq22.out] at hx396_1)
            cases e396
            replace p396 := eq_true p396
            replace q396 := eq_true q396
            go_wp2_with (first | ((with_reducible refine zP (N := 9) rfl ?_); refine zO ?hg (N := 9) ?hd (cs := #[.bool false, .bool false, .int .i64 0]) (t := 36) ?hr ?_; (case hd => rfl); (case hg => rfl); (case hr => first | (go_simp; done) | (go_simp; rfl)); intro gb397 hg w27 hbox hb; have n0_ := zB.mk (Kd.R_below (Kd.R_elderB (by (with_reducible repeat (first | apply Kd.R_alloc | apply Kd.R_drewN | apply Kd.R_drew)); exact HO_14.out) gb397 (Nat.le_of_eq hg.symm)) hb); have n1_ := zB.mk (zN (g := gb391) (o := .cells #[.int .i64 a0_0, .int .i64 a0_1, .slice A0_2 l0_2.length c0_2] 28 (0, 0)) (by (with_reducible repeat (first | refine zC ?_ _ | refine zG ?_ | refine zD ?_ _)); exact BK391.out) hb); have n2_ := zB.mk (zK (by repeat (first | (with_reducible first | exact HB.out | apply zF | apply zA | apply zE | refine zH ?_ GE391.out) | exact HB.out)) hb); have n3_ := zB.mk (hbox); have n4_ := zB.mk ((by rw [hg]; exact (zM (by repeat (first | (with_reducible first | exact HB.out | apply zF | apply zA | apply zE | refine zH ?_ GE391.out) | exact HB.out))) : w.heap.size ≤ gb397)); have n5_ := n4_; have n6_ := zB.mk ((by rw [hg]; exact Nat.ne_of_lt (zQ (by (with_reducible repeat (first | refine zC ?_ _ | refine zG ?_ | refine zD ?_ _)); exact BK391.out)) : gb391 ≠ gb397)); have n7_ := zB.mk n6_.out.symm; clear HO_14; clear BK391; clear HB; have HO_14 := n0_; have BK391 := n1_; have HB := n2_; have BK397 := n3_; have GW397 := n4_; have GE397 := n5_; have NB391_397 := n6_; have NB397_391 := n7_; clear n0_ n1_ n2_ n3_ n4_ n5_ n6_ n7_; clear hb hbox hg; have hnb28 := NB397_391.out; have hnc28 := NB391_397.out; have hcz29_0 : w27.cell? ⟨gb397, 0, none⟩ = some (.bool false) := zJ BK397.out 0; have hcz29_1 : w27.cell? ⟨gb397, 1, none⟩ = some (.bool false) := zJ BK397.out 1; have hcz29_2 : w27.cell? ⟨gb397, 2, none⟩ = some (.int .i64 0) := zJ BK397.out 2; have hfz29_0 := zI BK397.out 0; have hfz29_1 := zI BK397.out 1; have hfz29_2 := zI BK397.out 2))
            go_roundg k1
            case measure => have := HK1.out; omega
            case rel => exact ⟨(true), (true), (true), (false), (wrap64 (x16_1 + 1)), (by first | rfl | (simp; done) | (simp [*]; done)), (by first | rfl | (simp; done) | (simp [*]; done)), (by first | rfl | (simp; done) | (simp [*]; done)), (by first | rfl | (simp; done) | (simp [*]; done)), (by first | rfl | (simp; done) | (simp [*]; done)), H', ⟨by have := HK1.out; omega⟩, ⟨by (with_reducible repeat (first | apply Kd.R_alloc | apply Kd.R_drewN | apply Kd.R_drew)); exact Kd.R_mono (Kd.R_far (p := ⟨gb397, 2, none⟩) (Kd.R_far (p := ⟨gb397, 1, none⟩) (Kd.R_far (p := ⟨gb397, 0, none⟩) (Kd.R_mono HO_14.out (fun k_ hk => (⟨hk, hk.2⟩ : _ ∧ k_ ≠ gb397))) (fun _ hk => hk.2) (.bool false)) (fun _ hk => hk.2) (.bool ((rd_T36 t393 x16_1).f1))) (fun _ hk => hk.2) (.int .i64 ((rd_T36 t393 x16_1).f2))) (fun _ hk => trivial)⟩, ⟨by (with_reducible repeat (first | refine zC ?_ _ | refine zG ?_ | refine zD ?_ _)); refine zL ?_ NB391_397.out _; (with_reducible repeat (first | refine zC ?_ _ | refine zG ?_ | refine zD ?_ _)); refine zL ?_ NB391_397.out _; (with_reducible repeat (first | refine zC ?_ _ | refine zG ?_ | refine zD ?_ _)); refine zL ?_ NB391_397.out _; (with_reducible repeat (first | refine zC ?_ _ | refine zG ?_ | refine zD ?_ _)); exact BK391.out⟩, ⟨by repeat (first | (with_reducible first | exact HB.out | apply zF | apply zA | apply zE | refine zH ?_ GE391.out | refine zH ?_ GE397.out) | exact HB.out)⟩⟩
         ·
          replace c17 := Bool.eq_false_iff.mpr c17
          subst c17
          have H1 : (if (rd_T36 t393 x16_1).f0 = true then (if x7_1 = true then (zW.l0 k1 true true (!((rd_T36 t393 x16_1).f1)) true t393 (t393.length : Int) (wrap64 (x16_1 + 1))) else (zW.l0 k1 true true (!((rd_T36 t393 x16_1).f1)) ((rd_T36 t393 x16_1).f1) t393 (t393.length : Int) (wrap64 (x16_1 + 1)))) else (if x7_1 = true then (zW.l0 k1 true true false true t393 (t393.length : Int) (wrap64 (x16_1 + 1))) else (zW.l0 k1 true true false false t393 (t393.length : Int) (wrap64 (x16_1 + 1))))) = some (r1, r2) := by rw [if_neg (show ¬ (false = true) by decide)] at H; exact H
          clear H
          have H := H1
          clear H1
          obtain ⟨bq30, hbq30⟩ : ∃ b_ : Bool, b_ = ((rd_T36 t393 x16_1).f0) := ⟨_, rfl⟩
          replace H : (if bq30 = true then (if x7_1 = true then (zW.l0 k1 true true (!((rd_T36 t393 x16_1).f1)) true t393 (t393.length : Int) (wrap64 (x16_1 + 1))) else (zW.l0 k1 true true (!((rd_T36 t393 x16_1).f1)) ((rd_T36 t393 x16_1).f1) t393 (t393.length : Int) (wrap64 (x16_1 + 1)))) else (if x7_1 = true then (zW.l0 k1 true true false true t393 (t393.length : Int) (wrap64 (x16_1 + 1))) else (zW.l0 k1 true true false false t393 (t393.length : Int) (wrap64 (x16_1 + 1))))) = some (r1, r2) := by rw [← hbq30] at H; exact H
          have Nbq30 := zB.mk hbq30
          clear hbq30
          by_cases c31 : bq30 = true
          ·
           subst c31
           have H1 : (if x7_1 = true then (zW.l0 k1 true true (!((rd_T36 t393 x16_1).f1)) true t393 (t393.length : Int) (wrap64 (x16_1 + 1))) else (zW.l0 k1 true true (!((rd_T36 t393 x16_1).f1)) ((rd_T36 t393 x16_1).f1) t393 (t393.length : Int) (wrap64 (x16_1 + 1)))) = some (r1, r2) := by rw [if_pos rfl] at H; exact H
           clear H
           have H := H1
           clear H1
           by_cases c32 : x7_1 = true
           ·
            subst c32
            have H1 : (zW.l0 k1 true true (!((rd_T36 t393 x16_1).f1)) true t393 (t393.length : Int) (wrap64 (x16_1 + 1))) = some (r1, r2) := by rw [if_pos rfl] at H; exact H
            clear H
            have H := H1
            clear H1
            have H' := zB.mk H
            clear H
            have p396 : 0 ≤ (x16_1 : Int) := of_decide_eq_true (by first | (with_reducible assumption) | assumption)
            have q396 : x16_1 < (t393.length : Int) := of_decide_eq_true (by first | (with_reducible assumption) | assumption)
            obtain ⟨ad396, e396, hx396_0, hx396_1, hx396_2⟩ := at_T36 (Kd.R_reads' HO_14.out).2.2 x16_1 p396 q396
            (try rw [← Nbq30.out] at hx396_0)
            (try rw [← Nbq30.out] at hx396_1)
            cases e396
            replace p396 := eq_true p396
            replace q396 := eq_true q396
            go_wp2_with (first | ((with_reducible refine zP (N := 9) rfl ?_); refine zO ?hg (N := 9) ?hd (cs := #[.bool false, .bool false, .int .i64 0]) (t := 36) ?hr ?_; (case hd => rfl); (case hg => rfl); (case hr => first | (go_simp; done) | (go_simp; rfl)); intro gb397 hg w33 hbox hb; have n0_ := zB.mk (Kd.R_below (Kd.R_elderB (by (with_reducible repeat (first | apply Kd.R_alloc | apply Kd.R_drewN | apply Kd.R_drew)); exact HO_14.out) gb397 (Nat.le_of_eq hg.symm)) hb); have n1_ := zB.mk (zN (g := gb391) (o := .cells #[.int .i64 a0_0, .int .i64 a0_1, .slice A0_2 l0_2.length c0_2] 28 (0, 0)) (by (with_reducible repeat (first | refine zC ?_ _ | refine zG ?_ | refine zD ?_ _)); exact BK391.out) hb); have n2_ := zB.mk (zK (by repeat (first | (with_reducible first | exact HB.out | apply zF | apply zA | apply zE | refine zH ?_ GE391.out) | exact HB.out)) hb); have n3_ := zB.mk (hbox); have n4_ := zB.mk ((by rw [hg]; exact (zM (by repeat (first | (with_reducible first | exact HB.out | apply zF | apply zA | apply zE | refine zH ?_ GE391.out) | exact HB.out))) : w.heap.size ≤ gb397)); have n5_ := n4_; have n6_ := zB.mk ((by rw [hg]; exact Nat.ne_of_lt (zQ (by (with_reducible repeat (first | refine zC ?_ _ | refine zG ?_ | refine zD ?_ _)); exact BK391.out)) : gb391 ≠ gb397)); have n7_ := zB.mk n6_.out.symm; clear HO_14; clear BK391; clear HB; have HO_14 := n0_; have BK391 := n1_; have HB := n2_; have BK397 := n3_; have GW397 := n4_; have GE397 := n5_; have NB391_397 := n6_; have NB397_391 := n7_; clear n0_ n1_ n2_ n3_ n4_ n5_ n6_ n7_; clear hb hbox hg; have hnb34 := NB397_391.out; have hnc34 := NB391_397.out; have hcz35_0 : w33.cell? ⟨gb397, 0, none⟩ = some (.bool false) := zJ BK397.out 0; have hcz35_1 : w33.cell? ⟨gb397, 1, none⟩ = some (.bool false) := zJ BK397.out 1; have hcz35_2 : w33.cell? ⟨gb397, 2, none⟩ = some (.int .i64 0) := zJ BK397.out 2; have hfz35_0 := zI BK397.out 0; have hfz35_1 := zI BK397.out 1; have hfz35_2 := zI BK397.out 2))
            go_roundg k1
            case measure => have := HK1.out; omega
            case rel => exact ⟨(true), (true), (!((rd_T36 t393 x16_1).f1)), (true), (wrap64 (x16_1 + 1)), (by first | rfl | (simp; done) | (simp [*]; done)), (by first | rfl | (simp; done) | (simp [*]; done)), (by first | rfl | (simp; done) | (simp [*]; done)), (by first | rfl | (simp; done) | (simp [*]; done)), (by first | rfl | (simp; done) | (simp [*]; done)), H', ⟨by have := HK1.out; omega⟩, ⟨by (with_reducible repeat (first | apply Kd.R_alloc | apply Kd.R_drewN | apply Kd.R_drew)); exact Kd.R_mono (Kd.R_far (p := ⟨gb397, 2, none⟩) (Kd.R_far (p := ⟨gb397, 1, none⟩) (Kd.R_far (p := ⟨gb397, 0, none⟩) (Kd.R_mono HO_14.out (fun k_ hk => (⟨hk, hk.2⟩ : _ ∧ k_ ≠ gb397))) (fun _ hk => hk.2) (.bool true)) (fun _ hk => hk.2) (.bool ((rd_T36 t393 x16_1).f1))) (fun _ hk => hk.2) (.int .i64 ((rd_T36 t393 x16_1).f2))) (fun _ hk => trivial)⟩, ⟨by (with_reducible repeat (first | refine zC ?_ _ | refine zG ?_ | refine zD ?_ _)); refine zL ?_ NB391_397.out _; (with_reducible repeat (first | refine zC ?_ _ | refine zG ?_ | refine zD ?_ _)); refine zL ?_ NB391_397.out _; (with_reducible repeat (first | refine zC ?_ _ | refine zG ?_ | refine zD ?_ _)); refine zL ?_ NB391_397.out _; (with_reducible repeat (first | refine zC ?_ _ | refine zG ?_ | refine zD ?_ _)); exact BK391.out⟩, ⟨by repeat (first | (with_reducible first | exact HB.out | apply zF | apply zA | apply zE | refine zH ?_ GE391.out | refine zH ?_ GE397.out) | exact HB.out)⟩⟩
           ·
            replace c32 := Bool.eq_false_iff.mpr c32
            subst c32
            have H1 : (zW.l0 k1 true true (!((rd_T36 t393 x16_1).f1)) ((rd_T36 t393 x16_1).f1) t393 (t393.length : Int) (wrap64 (x16_1 + 1))) = some (r1, r2) := by rw [if_neg (show ¬ (false = true) by decide)] at H; exact H
            clear H
            have H := H1
            clear H1
            have H' := zB.mk H
            clear H
            have p396 : 0 ≤ (x16_1 : Int) := of_decide_eq_true (by first | (with_reducible assumption) | assumption)
            have q396 : x16_1 < (t393.length : Int) := of_decide_eq_true (by first | (with_reducible assumption) | assumption)
            obtain ⟨ad396, e396, hx396_0, hx396_1, hx396_2⟩ := at_T36 (Kd.R_reads' HO_14.out).2.2 x16_1 p396 q396
            (try rw [← Nbq30.out] at hx396_0)
            (try rw [← Nbq30.out] at hx396_1)
            cases e396
            replace p396 := eq_true p396
            replace q396 := eq_true q396
            go_wp2_with (first | ((with_reducible refine zP (N := 9) rfl ?_); refine zO ?hg (N := 9) ?hd (cs := #[.bool false, .bool false, .int .i64 0]) (t := 36) ?hr ?_; (case hd => rfl); (case hg => rfl); (case hr => first | (go_simp; done) | (go_simp; rfl)); intro gb397 hg w36 hbox hb; have n0_ := zB.mk (Kd.R_below (Kd.R_elderB (by (with_reducible repeat (first | apply Kd.R_alloc | apply Kd.R_drewN | apply Kd.R_drew)); exact HO_14.out) gb397 (Nat.le_of_eq hg.symm)) hb); have n1_ := zB.mk (zN (g := gb391) (o := .cells #[.int .i64 a0_0, .int .i64 a0_1, .slice A0_2 l0_2.length c0_2] 28 (0, 0)) (by (with_reducible repeat (first | refine zC ?_ _ | refine zG ?_ | refine zD ?_ _)); exact BK391.out) hb); have n2_ := zB.mk (zK (by repeat (first | (with_reducible first | exact HB.out | apply zF | apply zA | apply zE | refine zH ?_ GE391.out) | exact HB.out)) hb); have n3_ := zB.mk (hbox); have n4_ := zB.mk ((by rw [hg]; exact (zM (by repeat (first | (with_reducible first | exact HB.out | apply zF | apply zA | apply zE | refine zH ?_ GE391.out) | exact HB.out))) : w.heap.size ≤ gb397)); have n5_ := n4_; have n6_ := zB.mk ((by rw [hg]; exact Nat.ne_of_lt (zQ (by (with_reducible repeat (first | refine zC ?_ _ | refine zG ?_ | refine zD ?_ _)); exact BK391.out)) : gb391 ≠ gb397)); have n7_ := zB.mk n6_.out.symm; clear HO_14; clear BK391; clear HB; have HO_14 := n0_; have BK391 := n1_; have HB := n2_; have BK397 := n3_; have GW397 := n4_; have GE397 := n5_; have NB391_397 := n6_; have NB397_391 := n7_; clear n0_ n1_ n2_ n3_ n4_ n5_ n6_ n7_; clear hb hbox hg; have hnb37 := NB397_391.out; have hnc37 := NB391_397.out; have hcz38_0 : w36.cell? ⟨gb397, 0, none⟩ = some (.bool false) := zJ BK397.out 0; have hcz38_1 : w36.cell? ⟨gb397, 1, none⟩ = some (.bool false) := zJ BK397.out 1; have hcz38_2 : w36.cell? ⟨gb397, 2, none⟩ = some (.int .i64 0) := zJ BK397.out 2; have hfz38_0 := zI BK397.out 0; have hfz38_1 := zI BK397.out 1; have hfz38_2 := zI BK397.out 2))
            go_roundg k1
            case measure => have := HK1.out; omega
            case rel => exact ⟨(true), (true), (!((rd_T36 t393 x16_1).f1)), ((rd_T36 t393 x16_1).f1), (wrap64 (x16_1 + 1)), (by first | rfl | (simp; done) | (simp [*]; done)), (by first | rfl | (simp; done) | (simp [*]; done)), (by first | rfl | (simp; done) | (simp [*]; done)), (by first | rfl | (simp; done) | (simp [*]; done)), (by first | rfl | (simp; done) | (simp [*]; done)), H', ⟨by have := HK1.out; omega⟩, ⟨by (with_reducible repeat (first | apply Kd.R_alloc | apply Kd.R_drewN | apply Kd.R_drew)); exact Kd.R_mono (Kd.R_far (p := ⟨gb397, 2, none⟩) (Kd.R_far (p := ⟨gb397, 1, none⟩) (Kd.R_far (p := ⟨gb397, 0, none⟩) (Kd.R_mono HO_14.out (fun k_ hk => (⟨hk, hk.2⟩ : _ ∧ k_ ≠ gb397))) (fun _ hk => hk.2) (.bool true)) (fun _ hk => hk.2) (.bool ((rd_T36 t393 x16_1).f1))) (fun _ hk => hk.2) (.int .i64 ((rd_T36 t393 x16_1).f2))) (fun _ hk => trivial)⟩, ⟨by (with_reducible repeat (first | refine zC ?_ _ | refine zG ?_ | refine zD ?_ _)); refine zL ?_ NB391_397.out _; (with_reducible repeat (first | refine zC ?_ _ | refine zG ?_ | refine zD ?_ _)); refine zL ?_ NB391_397.out _; (with_reducible repeat (first | refine zC ?_ _ | refine zG ?_ | refine zD ?_ _)); refine zL ?_ NB391_397.out _; (with_reducible repeat (first | refine zC ?_ _ | refine zG ?_ | refine zD ?_ _)); exact BK391.out⟩, ⟨by repeat (first | (with_reducible first | exact HB.out | apply zF | apply zA | apply zE | refine zH ?_ GE391.out | refine zH ?_ GE397.out) | exact HB.out)⟩⟩
          ·
           replace c31 := Bool.eq_false_iff.mpr c31
           subst c31
           have H1 : (if x7_1 = true then (zW.l0 k1 true true false true t393 (t393.length : Int) (wrap64 (x16_1 + 1))) else (zW.l0 k1 true true false false t393 (t393.length : Int) (wrap64 (x16_1 + 1)))) = some (r1, r2) := by rw [if_neg (show ¬ (false = true) by decide)] at H; exact H
           clear H
           have H := H1
           clear H1
           by_cases c39 : x7_1 = true
           ·
            subst c39
            have H1 : (zW.l0 k1 true true false true t393 (t393.length : Int) (wrap64 (x16_1 + 1))) = some (r1, r2) := by rw [if_pos rfl] at H; exact H
            clear H
            have H := H1
            clear H1
            have H' := zB.mk H
            clear H
            have p396 : 0 ≤ (x16_1 : Int) := of_decide_eq_true (by first | (with_reducible assumption) | assumption)
            have q396 : x16_1 < (t393.length : Int) := of_decide_eq_true (by first | (with_reducible assumption) | assumption)
            obtain ⟨ad396, e396, hx396_0, hx396_1, hx396_2⟩ := at_T36 (Kd.R_reads' HO_14.out).2.2 x16_1 p396 q396
            (try rw [← Nbq30.out] at hx396_0)
            (try rw [← Nbq30.out] at hx396_1)
            cases e396
            replace p396 := eq_true p396
            replace q396 := eq_true q396
            go_wp2_with (first | ((with_reducible refine zP (N := 9) rfl ?_); refine zO ?hg (N := 9) ?hd (cs := #[.bool false, .bool false, .int .i64 0]) (t := 36) ?hr ?_; (case hd => rfl); (case hg => rfl); (case hr => first | (go_simp; done) | (go_simp; rfl)); intro gb397 hg w40 hbox hb; have n0_ := zB.mk (Kd.R_below (Kd.R_elderB (by (with_reducible repeat (first | apply Kd.R_alloc | apply Kd.R_drewN | apply Kd.R_drew)); exact HO_14.out) gb397 (Nat.le_of_eq hg.symm)) hb); have n1_ := zB.mk (zN (g := gb391) (o := .cells #[.int .i64 a0_0, .int .i64 a0_1, .slice A0_2 l0_2.length c0_2] 28 (0, 0)) (by (with_reducible repeat (first | refine zC ?_ _ | refine zG ?_ | refine zD ?_ _)); exact BK391.out) hb); have n2_ := zB.mk (zK (by repeat (first | (with_reducible first | exact HB.out | apply zF | apply zA | apply zE | refine zH ?_ GE391.out) | exact HB.out)) hb); have n3_ := zB.mk (hbox); have n4_ := zB.mk ((by rw [hg]; exact (zM (by repeat (first | (with_reducible first | exact HB.out | apply zF | apply zA | apply zE | refine zH ?_ GE391.out) | exact HB.out))) : w.heap.size ≤ gb397)); have n5_ := n4_; have n6_ := zB.mk ((by rw [hg]; exact Nat.ne_of_lt (zQ (by (with_reducible repeat (first | refine zC ?_ _ | refine zG ?_ | refine zD ?_ _)); exact BK391.out)) : gb391 ≠ gb397)); have n7_ := zB.mk n6_.out.symm; clear HO_14; clear BK391; clear HB; have HO_14 := n0_; have BK391 := n1_; have HB := n2_; have BK397 := n3_; have GW397 := n4_; have GE397 := n5_; have NB391_397 := n6_; have NB397_391 := n7_; clear n0_ n1_ n2_ n3_ n4_ n5_ n6_ n7_; clear hb hbox hg; have hnb41 := NB397_391.out; have hnc41 := NB391_397.out; have hcz42_0 : w40.cell? ⟨gb397, 0, none⟩ = some (.bool false) := zJ BK397.out 0; have hcz42_1 : w40.cell? ⟨gb397, 1, none⟩ = some (.bool false) := zJ BK397.out 1; have hcz42_2 : w40.cell? ⟨gb397, 2, none⟩ = some (.int .i64 0) := zJ BK397.out 2; have hfz42_0 := zI BK397.out 0; have hfz42_1 := zI BK397.out 1; have hfz42_2 := zI BK397.out 2))
            go_roundg k1
            case measure => have := HK1.out; omega
            case rel => exact ⟨(true), (true), (false), (true), (wrap64 (x16_1 + 1)), (by first | rfl | (simp; done) | (simp [*]; done)), (by first | rfl | (simp; done) | (simp [*]; done)), (by first | rfl | (simp; done) | (simp [*]; done)), (by first | rfl | (simp; done) | (simp [*]; done)), (by first | rfl | (simp; done) | (simp [*]; done)), H', ⟨by have := HK1.out; omega⟩, ⟨by (with_reducible repeat (first | apply Kd.R_alloc | apply Kd.R_drewN | apply Kd.R_drew)); exact Kd.R_mono (Kd.R_far (p := ⟨gb397, 2, none⟩) (Kd.R_far (p := ⟨gb397, 1, none⟩) (Kd.R_far (p := ⟨gb397, 0, none⟩) (Kd.R_mono HO_14.out (fun k_ hk => (⟨hk, hk.2⟩ : _ ∧ k_ ≠ gb397))) (fun _ hk => hk.2) (.bool false)) (fun _ hk => hk.2) (.bool ((rd_T36 t393 x16_1).f1))) (fun _ hk => hk.2) (.int .i64 ((rd_T36 t393 x16_1).f2))) (fun _ hk => trivial)⟩, ⟨by (with_reducible repeat (first | refine zC ?_ _ | refine zG ?_ | refine zD ?_ _)); refine zL ?_ NB391_397.out _; (with_reducible repeat (first | refine zC ?_ _ | refine zG ?_ | refine zD ?_ _)); refine zL ?_ NB391_397.out _; (with_reducible repeat (first | refine zC ?_ _ | refine zG ?_ | refine zD ?_ _)); refine zL ?_ NB391_397.out _; (with_reducible repeat (first | refine zC ?_ _ | refine zG ?_ | refine zD ?_ _)); exact BK391.out⟩, ⟨by repeat (first | (with_reducible first | exact HB.out | apply zF | apply zA | apply zE | refine zH ?_ GE391.out | refine zH ?_ GE397.out) | exact HB.out)⟩⟩
           ·
            replace c39 := Bool.eq_false_iff.mpr c39
            subst c39
            have H1 : (zW.l0 k1 true true false false t393 (t393.length : Int) (wrap64 (x16_1 + 1))) = some (r1, r2) := by rw [if_neg (show ¬ (false = true) by decide)] at H; exact H
            clear H
            have H := H1
            clear H1
            have H' := zB.mk H
            clear H
            have p396 : 0 ≤ (x16_1 : Int) := of_decide_eq_true (by first | (with_reducible assumption) | assumption)
            have q396 : x16_1 < (t393.length : Int) := of_decide_eq_true (by first | (with_reducible assumption) | assumption)
            obtain ⟨ad396, e396, hx396_0, hx396_1, hx396_2⟩ := at_T36 (Kd.R_reads' HO_14.out).2.2 x16_1 p396 q396
            (try rw [← Nbq30.out] at hx396_0)
            (try rw [← Nbq30.out] at hx396_1)
            cases e396
            replace p396 := eq_true p396
            replace q396 := eq_true q396
            go_wp2_with (first | ((with_reducible refine zP (N := 9) rfl ?_); refine zO ?hg (N := 9) ?hd (cs := #[.bool false, .bool false, .int .i64 0]) (t := 36) ?hr ?_; (case hd => rfl); (case hg => rfl); (case hr => first | (go_simp; done) | (go_simp; rfl)); intro gb397 hg w43 hbox hb; have n0_ := zB.mk (Kd.R_below (Kd.R_elderB (by (with_reducible repeat (first | apply Kd.R_alloc | apply Kd.R_drewN | apply Kd.R_drew)); exact HO_14.out) gb397 (Nat.le_of_eq hg.symm)) hb); have n1_ := zB.mk (zN (g := gb391) (o := .cells #[.int .i64 a0_0, .int .i64 a0_1, .slice A0_2 l0_2.length c0_2] 28 (0, 0)) (by (with_reducible repeat (first | refine zC ?_ _ | refine zG ?_ | refine zD ?_ _)); exact BK391.out) hb); have n2_ := zB.mk (zK (by repeat (first | (with_reducible first | exact HB.out | apply zF | apply zA | apply zE | refine zH ?_ GE391.out) | exact HB.out)) hb); have n3_ := zB.mk (hbox); have n4_ := zB.mk ((by rw [hg]; exact (zM (by repeat (first | (with_reducible first | exact HB.out | apply zF | apply zA | apply zE | refine zH ?_ GE391.out) | exact HB.out))) : w.heap.size ≤ gb397)); have n5_ := n4_; have n6_ := zB.mk ((by rw [hg]; exact Nat.ne_of_lt (zQ (by (with_reducible repeat (first | refine zC ?_ _ | refine zG ?_ | refine zD ?_ _)); exact BK391.out)) : gb391 ≠ gb397)); have n7_ := zB.mk n6_.out.symm; clear HO_14; clear BK391; clear HB; have HO_14 := n0_; have BK391 := n1_; have HB := n2_; have BK397 := n3_; have GW397 := n4_; have GE397 := n5_; have NB391_397 := n6_; have NB397_391 := n7_; clear n0_ n1_ n2_ n3_ n4_ n5_ n6_ n7_; clear hb hbox hg; have hnb44 := NB397_391.out; have hnc44 := NB391_397.out; have hcz45_0 : w43.cell? ⟨gb397, 0, none⟩ = some (.bool false) := zJ BK397.out 0; have hcz45_1 : w43.cell? ⟨gb397, 1, none⟩ = some (.bool false) := zJ BK397.out 1; have hcz45_2 : w43.cell? ⟨gb397, 2, none⟩ = some (.int .i64 0) := zJ BK397.out 2; have hfz45_0 := zI BK397.out 0; have hfz45_1 := zI BK397.out 1; have hfz45_2 := zI BK397.out 2))
            go_roundg k1
            case measure => have := HK1.out; omega
            case rel => exact ⟨(true), (true), (false), (false), (wrap64 (x16_1 + 1)), (by first | rfl | (simp; done) | (simp [*]; done)), (by first | rfl | (simp; done) | (simp [*]; done)), (by first | rfl | (simp; done) | (simp [*]; done)), (by first | rfl | (simp; done) | (simp [*]; done)), (by first | rfl | (simp; done) | (simp [*]; done)), H', ⟨by have := HK1.out; omega⟩, ⟨by (with_reducible repeat (first | apply Kd.R_alloc | apply Kd.R_drewN | apply Kd.R_drew)); exact Kd.R_mono (Kd.R_far (p := ⟨gb397, 2, none⟩) (Kd.R_far (p := ⟨gb397, 1, none⟩) (Kd.R_far (p := ⟨gb397, 0, none⟩) (Kd.R_mono HO_14.out (fun k_ hk => (⟨hk, hk.2⟩ : _ ∧ k_ ≠ gb397))) (fun _ hk => hk.2) (.bool false)) (fun _ hk => hk.2) (.bool ((rd_T36 t393 x16_1).f1))) (fun _ hk => hk.2) (.int .i64 ((rd_T36 t393 x16_1).f2))) (fun _ hk => trivial)⟩, ⟨by (with_reducible repeat (first | refine zC ?_ _ | refine zG ?_ | refine zD ?_ _)); refine zL ?_ NB391_397.out _; (with_reducible repeat (first | refine zC ?_ _ | refine zG ?_ | refine zD ?_ _)); refine zL ?_ NB391_397.out _; (with_reducible repeat (first | refine zC ?_ _ | refine zG ?_ | refine zD ?_ _)); refine zL ?_ NB391_397.out _; (with_reducible repeat (first | refine zC ?_ _ | refine zG ?_ | refine zD ?_ _)); exact BK391.out⟩, ⟨by repeat (first | (with_reducible first | exact HB.out | apply zF | apply zA | apply zE | refine zH ?_ GE391.out | refine zH ?_ GE397.out) | exact HB.out)⟩⟩
        ·
         replace c16 := Bool.eq_false_iff.mpr c16
         subst c16
         have H1 : (if ((rd_T36 t393 x16_1).f0 = true) then (if x6_1 = true then (if x7_1 = true then (zW.l0 k1 true false true true t393 (t393.length : Int) (wrap64 (x16_1 + 1))) else (if (rd_T36 t393 x16_1).f0 = true then (zW.l0 k1 true false true ((rd_T36 t393 x16_1).f1) t393 (t393.length : Int) (wrap64 (x16_1 + 1))) else (zW.l0 k1 true false true false t393 (t393.length : Int) (wrap64 (x16_1 + 1))))) else (if (rd_T36 t393 x16_1).f0 = true then (if x7_1 = true then (zW.l0 k1 true false (!((rd_T36 t393 x16_1).f1)) true t393 (t393.length : Int) (wrap64 (x16_1 + 1))) else (zW.l0 k1 true false (!((rd_T36 t393 x16_1).f1)) ((rd_T36 t393 x16_1).f1) t393 (t393.length : Int) (wrap64 (x16_1 + 1)))) else (if x7_1 = true then (zW.l0 k1 true false false true t393 (t393.length : Int) (wrap64 (x16_1 + 1))) else (zW.l0 k1 true false false false t393 (t393.length : Int) (wrap64 (x16_1 + 1)))))) else (if (rd_T36 t393 x16_1).f1 = true then (if x6_1 = true then (if x7_1 = true then (zW.l0 k1 true (((rd_T36 t393 x16_1).f2) != 0) true true t393 (t393.length : Int) (wrap64 (x16_1 + 1))) else (if (rd_T36 t393 x16_1).f0 = true then (zW.l0 k1 true (((rd_T36 t393 x16_1).f2) != 0) true ((rd_T36 t393 x16_1).f1) t393 (t393.length : Int) (wrap64 (x16_1 + 1))) else (zW.l0 k1 true (((rd_T36 t393 x16_1).f2) != 0) true false t393 (t393.length : Int) (wrap64 (x16_1 + 1))))) else (if (rd_T36 t393 x16_1).f0 = true then (if x7_1 = true then (zW.l0 k1 true (((rd_T36 t393 x16_1).f2) != 0) (!((rd_T36 t393 x16_1).f1)) true t393 (t393.length : Int) (wrap64 (x16_1 + 1))) else (zW.l0 k1 true (((rd_T36 t393 x16_1).f2) != 0) (!((rd_T36 t393 x16_1).f1)) ((rd_T36 t393 x16_1).f1) t393 (t393.length : Int) (wrap64 (x16_1 + 1)))) else (if x7_1 = true then (zW.l0 k1 true (((rd_T36 t393 x16_1).f2) != 0) false true t393 (t393.length : Int) (wrap64 (x16_1 + 1))) else (zW.l0 k1 true (((rd_T36 t393 x16_1).f2) != 0) false false t393 (t393.length : Int) (wrap64 (x16_1 + 1)))))) else (if x6_1 = true then (if x7_1 = true then (zW.l0 k1 true false true true t393 (t393.length : Int) (wrap64 (x16_1 + 1))) else (if (rd_T36 t393 x16_1).f0 = true then (zW.l0 k1 true false true ((rd_T36 t393 x16_1).f1) t393 (t393.length : Int) (wrap64 (x16_1 + 1))) else (zW.l0 k1 true false true false t393 (t393.length : Int) (wrap64 (x16_1 + 1))))) else (if (rd_T36 t393 x16_1).f0 = true then (if x7_1 = true then (zW.l0 k1 true false (!((rd_T36 t393 x16_1).f1)) true t393 (t393.length : Int) (wrap64 (x16_1 + 1))) else (zW.l0 k1 true false (!((rd_T36 t393 x16_1).f1)) ((rd_T36 t393 x16_1).f1) t393 (t393.length : Int) (wrap64 (x16_1 + 1)))) else (if x7_1 = true then (zW.l0 k1 true false false true t393 (t393.length : Int) (wrap64 (x16_1 + 1))) else (zW.l0 k1 true false false false t393 (t393.length : Int) (wrap64 (x16_1 + 1)))))))) = some (r1, r2) := by rw [if_neg (show ¬ (false = true) by decide)] at H; exact H
         clear H
         have H := H1
         clear H1
         obtain ⟨bq46, hbq46⟩ : ∃ b_ : Bool, b_ = ((rd_T36 t393 x16_1).f0) := ⟨_, rfl⟩
         replace H : (if (bq46 = true) then (if x6_1 = true then (if x7_1 = true then (zW.l0 k1 true false true true t393 (t393.length : Int) (wrap64 (x16_1 + 1))) else (if bq46 = true then (zW.l0 k1 true false true ((rd_T36 t393 x16_1).f1) t393 (t393.length : Int) (wrap64 (x16_1 + 1))) else (zW.l0 k1 true false true false t393 (t393.length : Int) (wrap64 (x16_1 + 1))))) else (if bq46 = true then (if x7_1 = true then (zW.l0 k1 true false (!((rd_T36 t393 x16_1).f1)) true t393 (t393.length : Int) (wrap64 (x16_1 + 1))) else (zW.l0 k1 true false (!((rd_T36 t393 x16_1).f1)) ((rd_T36 t393 x16_1).f1) t393 (t393.length : Int) (wrap64 (x16_1 + 1)))) else (if x7_1 = true then (zW.l0 k1 true false false true t393 (t393.length : Int) (wrap64 (x16_1 + 1))) else (zW.l0 k1 true false false false t393 (t393.length : Int) (wrap64 (x16_1 + 1)))))) else (if (rd_T36 t393 x16_1).f1 = true then (if x6_1 = true then (if x7_1 = true then (zW.l0 k1 true (((rd_T36 t393 x16_1).f2) != 0) true true t393 (t393.length : Int) (wrap64 (x16_1 + 1))) else (if bq46 = true then (zW.l0 k1 true (((rd_T36 t393 x16_1).f2) != 0) true ((rd_T36 t393 x16_1).f1) t393 (t393.length : Int) (wrap64 (x16_1 + 1))) else (zW.l0 k1 true (((rd_T36 t393 x16_1).f2) != 0) true false t393 (t393.length : Int) (wrap64 (x16_1 + 1))))) else (if bq46 = true then (if x7_1 = true then (zW.l0 k1 true (((rd_T36 t393 x16_1).f2) != 0) (!((rd_T36 t393 x16_1).f1)) true t393 (t393.length : Int) (wrap64 (x16_1 + 1))) else (zW.l0 k1 true (((rd_T36 t393 x16_1).f2) != 0) (!((rd_T36 t393 x16_1).f1)) ((rd_T36 t393 x16_1).f1) t393 (t393.length : Int) (wrap64 (x16_1 + 1)))) else (if x7_1 = true then (zW.l0 k1 true (((rd_T36 t393 x16_1).f2) != 0) false true t393 (t393.length : Int) (wrap64 (x16_1 + 1))) else (zW.l0 k1 true (((rd_T36 t393 x16_1).f2) != 0) false false t393 (t393.length : Int) (wrap64 (x16_1 + 1)))))) else (if x6_1 = true then (if x7_1 = true then (zW.l0 k1 true false true true t393 (t393.length : Int) (wrap64 (x16_1 + 1))) else (if bq46 = true then (zW.l0 k1 true false true ((rd_T36 t393 x16_1).f1) t393 (t393.length : Int) (wrap64 (x16_1 + 1))) else (zW.l0 k1 true false true false t393 (t393.length : Int) (wrap64 (x16_1 + 1))))) else (if bq46 = true then (if x7_1 = true then (zW.l0 k1 true false (!((rd_T36 t393 x16_1).f1)) true t393 (t393.length : Int) (wrap64 (x16_1 + 1))) else (zW.l0 k1 true false (!((rd_T36 t393 x16_1).f1)) ((rd_T36 t393 x16_1).f1) t393 (t393.length : Int) (wrap64 (x16_1 + 1)))) else (if x7_1 = true then (zW.l0 k1 true false false true t393 (t393.length : Int) (wrap64 (x16_1 + 1))) else (zW.l0 k1 true false false false t393 (t393.length : Int) (wrap64 (x16_1 + 1)))))))) = some (r1, r2) := by rw [← hbq46] at H; exact H
         have Nbq46 := zB.mk hbq46
         clear hbq46
         by_cases c47 : (bq46 = true)
         ·
          subst c47
          have H1 : (if x6_1 = true then (if x7_1 = true then (zW.l0 k1 true false true true t393 (t393.length : Int) (wrap64 (x16_1 + 1))) else (if true = true then (zW.l0 k1 true false true ((rd_T36 t393 x16_1).f1) t393 (t393.length : Int) (wrap64 (x16_1 + 1))) else (zW.l0 k1 true false true false t393 (t393.length : Int) (wrap64 (x16_1 + 1))))) else (if true = true then (if x7_1 = true then (zW.l0 k1 true false (!((rd_T36 t393 x16_1).f1)) true t393 (t393.length : Int) (wrap64 (x16_1 + 1))) else (zW.l0 k1 true false (!((rd_T36 t393 x16_1).f1)) ((rd_T36 t393 x16_1).f1) t393 (t393.length : Int) (wrap64 (x16_1 + 1)))) else (if x7_1 = true then (zW.l0 k1 true false false true t393 (t393.length : Int) (wrap64 (x16_1 + 1))) else (zW.l0 k1 true false false false t393 (t393.length : Int) (wrap64 (x16_1 + 1)))))) = some (r1, r2) := by rw [if_pos rfl] at H; exact H
          clear H
          have H := H1
          clear H1
          by_cases c48 : x6_1 = true
          ·
           subst c48
           have H1 : (if x7_1 = true then (zW.l0 k1 true false true true t393 (t393.length : Int) (wrap64 (x16_1 + 1))) else (if true = true then (zW.l0 k1 true false true ((rd_T36 t393 x16_1).f1) t393 (t393.length : Int) (wrap64 (x16_1 + 1))) else (zW.l0 k1 true false true false t393 (t393.length : Int) (wrap64 (x16_1 + 1))))) = some (r1, r2) := by rw [if_pos rfl] at H; exact H
           clear H
           have H := H1
           clear H1
           by_cases c49 : x7_1 = true
           ·
            subst c49
            have H1 : (zW.l0 k1 true false true true t393 (t393.length : Int) (wrap64 (x16_1 + 1))) = some (r1, r2) := by rw [if_pos rfl] at H; exact H
            clear H
            have H := H1
            clear H1
            have H' := zB.mk H
            clear H
            have p396 : 0 ≤ (x16_1 : Int) := of_decide_eq_true (by first | (with_reducible assumption) | assumption)
            have q396 : x16_1 < (t393.length : Int) := of_decide_eq_true (by first | (with_reducible assumption) | assumption)
            obtain ⟨ad396, e396, hx396_0, hx396_1, hx396_2⟩ := at_T36 (Kd.R_reads' HO_14.out).2.2 x16_1 p396 q396
            (try rw [← Nbq46.out] at hx396_0)
            (try rw [← Nbq46.out] at hx396_1)
            cases e396
            replace p396 := eq_true p396
            replace q396 := eq_true q396
            go_wp2_with (first | ((with_reducible refine zP (N := 9) rfl ?_); refine zO ?hg (N := 9) ?hd (cs := #[.bool false, .bool false, .int .i64 0]) (t := 36) ?hr ?_; (case hd => rfl); (case hg => rfl); (case hr => first | (go_simp; done) | (go_simp; rfl)); intro gb397 hg w50 hbox hb; have n0_ := zB.mk (Kd.R_below (Kd.R_elderB (by (with_reducible repeat (first | apply Kd.R_alloc | apply Kd.R_drewN | apply Kd.R_drew)); exact HO_14.out) gb397 (Nat.le_of_eq hg.symm)) hb); have n1_ := zB.mk (zN (g := gb391) (o := .cells #[.int .i64 a0_0, .int .i64 a0_1, .slice A0_2 l0_2.length c0_2] 28 (0, 0)) (by (with_reducible repeat (first | refine zC ?_ _ | refine zG ?_ | refine zD ?_ _)); exact BK391.out) hb); have n2_ := zB.mk (zK (by repeat (first | (with_reducible first | exact HB.out | apply zF | apply zA | apply zE | refine zH ?_ GE391.out) | exact HB.out)) hb); have n3_ := zB.mk (hbox); have n4_ := zB.mk ((by rw [hg]; exact (zM (by repeat (first | (with_reducible first | exact HB.out | apply zF | apply zA | apply zE | refine zH ?_ GE391.out) | exact HB.out))) : w.heap.size ≤ gb397)); have n5_ := n4_; have n6_ := zB.mk ((by rw [hg]; exact Nat.ne_of_lt (zQ (by (with_reducible repeat (first | refine zC ?_ _ | refine zG ?_ | refine zD ?_ _)); exact BK391.out)) : gb391 ≠ gb397)); have n7_ := zB.mk n6_.out.symm; clear HO_14; clear BK391; clear HB; have HO_14 := n0_; have BK391 := n1_; have HB := n2_; have BK397 := n3_; have GW397 := n4_; have GE397 := n5_; have NB391_397 := n6_; have NB397_391 := n7_; clear n0_ n1_ n2_ n3_ n4_ n5_ n6_ n7_; clear hb hbox hg; have hnb51 := NB397_391.out; have hnc51 := NB391_397.out; have hcz52_0 : w50.cell? ⟨gb397, 0, none⟩ = some (.bool false) := zJ BK397.out 0; have hcz52_1 : w50.cell? ⟨gb397, 1, none⟩ = some (.bool false) := zJ BK397.out 1; have hcz52_2 : w50.cell? ⟨gb397, 2, none⟩ = some (.int .i64 0) := zJ BK397.out 2; have hfz52_0 := zI BK397.out 0; have hfz52_1 := zI BK397.out 1; have hfz52_2 := zI BK397.out 2))
            go_roundg k1
            case measure => have := HK1.out; omega
            case rel => exact ⟨(true), (false), (true), (true), (wrap64 (x16_1 + 1)), (by first | rfl | (simp; done) | (simp [*]; done)), (by first | rfl | (simp; done) | (simp [*]; done)), (by first | rfl | (simp; done) | (simp [*]; done)), (by first | rfl | (simp; done) | (simp [*]; done)), (by first | rfl | (simp; done) | (simp [*]; done)), H', ⟨by have := HK1.out; omega⟩, ⟨by (with_reducible repeat (first | apply Kd.R_alloc | apply Kd.R_drewN | apply Kd.R_drew)); exact Kd.R_mono (Kd.R_far (p := ⟨gb397, 2, none⟩) (Kd.R_far (p := ⟨gb397, 1, none⟩) (Kd.R_far (p := ⟨gb397, 0, none⟩) (Kd.R_mono HO_14.out (fun k_ hk => (⟨hk, hk.2⟩ : _ ∧ k_ ≠ gb397))) (fun _ hk => hk.2) (.bool true)) (fun _ hk => hk.2) (.bool ((rd_T36 t393 x16_1).f1))) (fun _ hk => hk.2) (.int .i64 ((rd_T36 t393 x16_1).f2))) (fun _ hk => trivial)⟩, ⟨by (with_reducible repeat (first | refine zC ?_ _ | refine zG ?_ | refine zD ?_ _)); refine zL ?_ NB391_397.out _; (with_reducible repeat (first | refine zC ?_ _ | refine zG ?_ | refine zD ?_ _)); refine zL ?_ NB391_397.out _; (with_reducible repeat (first | refine zC ?_ _ | refine zG ?_ | refine zD ?_ _)); refine zL ?_ NB391_397.out _; (with_reducible repeat (first | refine zC ?_ _ | refine zG ?_ | refine zD ?_ _)); exact BK391.out⟩, ⟨by repeat (first | (with_reducible first | exact HB.out | apply zF | apply zA | apply zE | refine zH ?_ GE391.out | refine zH ?_ GE397.out) | exact HB.out)⟩⟩
           ·
            replace c49 := Bool.eq_false_iff.mpr c49
            subst c49
            have H1 : (if true = true then (zW.l0 k1 true false true ((rd_T36 t393 x16_1).f1) t393 (t393.length : Int) (wrap64 (x16_1 + 1))) else (zW.l0 k1 true false true false t393 (t393.length : Int) (wrap64 (x16_1 + 1)))) = some (r1, r2) := by rw [if_neg (show ¬ (false = true) by decide)] at H; exact H
            clear H
            have H := H1
            clear H1
            have H1 : (zW.l0 k1 true false true ((rd_T36 t393 x16_1).f1) t393 (t393.length : Int) (wrap64 (x16_1 + 1))) = some (r1, r2) := by rw [if_pos rfl] at H; exact H
            clear H
            have H := H1
            clear H1
            have H' := zB.mk H
            clear H
            have p396 : 0 ≤ (x16_1 : Int) := of_decide_eq_true (by first | (with_reducible assumption) | assumption)
            have q396 : x16_1 < (t393.length : Int) := of_decide_eq_true (by first | (with_reducible assumption) | assumption)
            obtain ⟨ad396, e396, hx396_0, hx396_1, hx396_2⟩ := at_T36 (Kd.R_reads' HO_14.out).2.2 x16_1 p396 q396
            (try rw [← Nbq46.out] at hx396_0)
            (try rw [← Nbq46.out] at hx396_1)
            cases e396
            replace p396 := eq_true p396
            replace q396 := eq_true q396
            go_wp2_with (first | ((with_reducible refine zP (N := 9) rfl ?_); refine zO ?hg (N := 9) ?hd (cs := #[.bool false, .bool false, .int .i64 0]) (t := 36) ?hr ?_; (case hd => rfl); (case hg => rfl); (case hr => first | (go_simp; done) | (go_simp; rfl)); intro gb397 hg w53 hbox hb; have n0_ := zB.mk (Kd.R_below (Kd.R_elderB (by (with_reducible repeat (first | apply Kd.R_alloc | apply Kd.R_drewN | apply Kd.R_drew)); exact HO_14.out) gb397 (Nat.le_of_eq hg.symm)) hb); have n1_ := zB.mk (zN (g := gb391) (o := .cells #[.int .i64 a0_0, .int .i64 a0_1, .slice A0_2 l0_2.length c0_2] 28 (0, 0)) (by (with_reducible repeat (first | refine zC ?_ _ | refine zG ?_ | refine zD ?_ _)); exact BK391.out) hb); have n2_ := zB.mk (zK (by repeat (first | (with_reducible first | exact HB.out | apply zF | apply zA | apply zE | refine zH ?_ GE391.out) | exact HB.out)) hb); have n3_ := zB.mk (hbox); have n4_ := zB.mk ((by rw [hg]; exact (zM (by repeat (first | (with_reducible first | exact HB.out | apply zF | apply zA | apply zE | refine zH ?_ GE391.out) | exact HB.out))) : w.heap.size ≤ gb397)); have n5_ := n4_; have n6_ := zB.mk ((by rw [hg]; exact Nat.ne_of_lt (zQ (by (with_reducible repeat (first | refine zC ?_ _ | refine zG ?_ | refine zD ?_ _)); exact BK391.out)) : gb391 ≠ gb397)); have n7_ := zB.mk n6_.out.symm; clear HO_14; clear BK391; clear HB; have HO_14 := n0_; have BK391 := n1_; have HB := n2_; have BK397 := n3_; have GW397 := n4_; have GE397 := n5_; have NB391_397 := n6_; have NB397_391 := n7_; clear n0_ n1_ n2_ n3_ n4_ n5_ n6_ n7_; clear hb hbox hg; have hnb54 := NB397_391.out; have hnc54 := NB391_397.out; have hcz55_0 : w53.cell? ⟨gb397, 0, none⟩ = some (.bool false) := zJ BK397.out 0; have hcz55_1 : w53.cell? ⟨gb397, 1, none⟩ = some (.bool false) := zJ BK397.out 1; have hcz55_2 : w53.cell? ⟨gb397, 2, none⟩ = some (.int .i64 0) := zJ BK397.out 2; have hfz55_0 := zI BK397.out 0; have hfz55_1 := zI BK397.out 1; have hfz55_2 := zI BK397.out 2))
            go_roundg k1
            case measure => have := HK1.out; omega
            case rel => exact ⟨(true), (false), (true), ((rd_T36 t393 x16_1).f1), (wrap64 (x16_1 + 1)), (by first | rfl | (simp; done) | (simp [*]; done)), (by first | rfl | (simp; done) | (simp [*]; done)), (by first | rfl | (simp; done) | (simp [*]; done)), (by first | rfl | (simp; done) | (simp [*]; done)), (by first | rfl | (simp; done) | (simp [*]; done)), H', ⟨by have := HK1.out; omega⟩, ⟨by (with_reducible repeat (first | apply Kd.R_alloc | apply Kd.R_drewN | apply Kd.R_drew)); exact Kd.R_mono (Kd.R_far (p := ⟨gb397, 2, none⟩) (Kd.R_far (p := ⟨gb397, 1, none⟩) (Kd.R_far (p := ⟨gb397, 0, none⟩) (Kd.R_mono HO_14.out (fun k_ hk => (⟨hk, hk.2⟩ : _ ∧ k_ ≠ gb397))) (fun _ hk => hk.2) (.bool true)) (fun _ hk => hk.2) (.bool ((rd_T36 t393 x16_1).f1))) (fun _ hk => hk.2) (.int .i64 ((rd_T36 t393 x16_1).f2))) (fun _ hk => trivial)⟩, ⟨by (with_reducible repeat (first | refine zC ?_ _ | refine zG ?_ | refine zD ?_ _)); refine zL ?_ NB391_397.out _; (with_reducible repeat (first | refine zC ?_ _ | refine zG ?_ | refine zD ?_ _)); refine zL ?_ NB391_397.out _; (with_reducible repeat (first | refine zC ?_ _ | refine zG ?_ | refine zD ?_ _)); refine zL ?_ NB391_397.out _; (with_reducible repeat (first | refine zC ?_ _ | refine zG ?_ | refine zD ?_ _)); exact BK391.out⟩, ⟨by repeat (first | (with_reducible first | exact HB.out | apply zF | apply zA | apply zE | refine zH ?_ GE391.out | refine zH ?_ GE397.out) | exact HB.out)⟩⟩
          ·
           replace c48 := Bool.eq_false_iff.mpr c48
           subst c48
           have H1 : (if true = true then (if x7_1 = true then (zW.l0 k1 true false (!((rd_T36 t393 x16_1).f1)) true t393 (t393.length : Int) (wrap64 (x16_1 + 1))) else (zW.l0 k1 true false (!((rd_T36 t393 x16_1).f1)) ((rd_T36 t393 x16_1).f1) t393 (t393.length : Int) (wrap64 (x16_1 + 1)))) else (if x7_1 = true then (zW.l0 k1 true false false true t393 (t393.length : Int) (wrap64 (x16_1 + 1))) else (zW.l0 k1 true false false false t393 (t393.length : Int) (wrap64 (x16_1 + 1))))) = some (r1, r2) := by rw [if_neg (show ¬ (false = true) by decide)] at H; exact H
           clear H
           have H := H1
           clear H1
           have H1 : (if x7_1 = true then (zW.l0 k1 true false (!((rd_T36 t393 x16_1).f1)) true t393 (t393.length : Int) (wrap64 (x16_1 + 1))) else (zW.l0 k1 true false (!((rd_T36 t393 x16_1).f1)) ((rd_T36 t393 x16_1).f1) t393 (t393.length : Int) (wrap64 (x16_1 + 1)))) = some (r1, r2) := by rw [if_pos rfl] at H; exact H
           clear H
           have H := H1
           clear H1
           by_cases c56 : x7_1 = true
           ·
            subst c56
            have H1 : (zW.l0 k1 true false (!((rd_T36 t393 x16_1).f1)) true t393 (t393.length : Int) (wrap64 (x16_1 + 1))) = some (r1, r2) := by rw [if_pos rfl] at H; exact H
            clear H
            have H := H1
            clear H1
            have H' := zB.mk H
            clear H
            have p396 : 0 ≤ (x16_1 : Int) := of_decide_eq_true (by first | (with_reducible assumption) | assumption)
            have q396 : x16_1 < (t393.length : Int) := of_decide_eq_true (by first | (with_reducible assumption) | assumption)
            obtain ⟨ad396, e396, hx396_0, hx396_1, hx396_2⟩ := at_T36 (Kd.R_reads' HO_14.out).2.2 x16_1 p396 q396
            (try rw [← Nbq46.out] at hx396_0)
            (try rw [← Nbq46.out] at hx396_1)
            cases e396
            replace p396 := eq_true p396
            replace q396 := eq_true q396
            go_wp2_with (first | ((with_reducible refine zP (N := 9) rfl ?_); refine zO ?hg (N := 9) ?hd (cs := #[.bool false, .bool false, .int .i64 0]) (t := 36) ?hr ?_; (case hd => rfl); (case hg => rfl); (case hr => first | (go_simp; done) | (go_simp; rfl)); intro gb397 hg w57 hbox hb; have n0_ := zB.mk (Kd.R_below (Kd.R_elderB (by (with_reducible repeat (first | apply Kd.R_alloc | apply Kd.R_drewN | apply Kd.R_drew)); exact HO_14.out) gb397 (Nat.le_of_eq hg.symm)) hb); have n1_ := zB.mk (zN (g := gb391) (o := .cells #[.int .i64 a0_0, .int .i64 a0_1, .slice A0_2 l0_2.length c0_2] 28 (0, 0)) (by (with_reducible repeat (first | refine zC ?_ _ | refine zG ?_ | refine zD ?_ _)); exact BK391.out) hb); have n2_ := zB.mk (zK (by repeat (first | (with_reducible first | exact HB.out | apply zF | apply zA | apply zE | refine zH ?_ GE391.out) | exact HB.out)) hb); have n3_ := zB.mk (hbox); have n4_ := zB.mk ((by rw [hg]; exact (zM (by repeat (first | (with_reducible first | exact HB.out | apply zF | apply zA | apply zE | refine zH ?_ GE391.out) | exact HB.out))) : w.heap.size ≤ gb397)); have n5_ := n4_; have n6_ := zB.mk ((by rw [hg]; exact Nat.ne_of_lt (zQ (by (with_reducible repeat (first | refine zC ?_ _ | refine zG ?_ | refine zD ?_ _)); exact BK391.out)) : gb391 ≠ gb397)); have n7_ := zB.mk n6_.out.symm; clear HO_14; clear BK391; clear HB; have HO_14 := n0_; have BK391 := n1_; have HB := n2_; have BK397 := n3_; have GW397 := n4_; have GE397 := n5_; have NB391_397 := n6_; have NB397_391 := n7_; clear n0_ n1_ n2_ n3_ n4_ n5_ n6_ n7_; clear hb hbox hg; have hnb58 := NB397_391.out; have hnc58 := NB391_397.out; have hcz59_0 : w57.cell? ⟨gb397, 0, none⟩ = some (.bool false) := zJ BK397.out 0; have hcz59_1 : w57.cell? ⟨gb397, 1, none⟩ = some (.bool false) := zJ BK397.out 1; have hcz59_2 : w57.cell? ⟨gb397, 2, none⟩ = some (.int .i64 0) := zJ BK397.out 2; have hfz59_0 := zI BK397.out 0; have hfz59_1 := zI BK397.out 1; have hfz59_2 := zI BK397.out 2))
            go_roundg k1
            case measure => have := HK1.out; omega
            case rel => exact ⟨(true), (false), (!((rd_T36 t393 x16_1).f1)), (true), (wrap64 (x16_1 + 1)), (by first | rfl | (simp; done) | (simp [*]; done)), (by first | rfl | (simp; done) | (simp [*]; done)), (by first | rfl | (simp; done) | (simp [*]; done)), (by first | rfl | (simp; done) | (simp [*]; done)), (by first | rfl | (simp; done) | (simp [*]; done)), H', ⟨by have := HK1.out; omega⟩, ⟨by (with_reducible repeat (first | apply Kd.R_alloc | apply Kd.R_drewN | apply Kd.R_drew)); exact Kd.R_mono (Kd.R_far (p := ⟨gb397, 2, none⟩) (Kd.R_far (p := ⟨gb397, 1, none⟩) (Kd.R_far (p := ⟨gb397, 0, none⟩) (Kd.R_mono HO_14.out (fun k_ hk => (⟨hk, hk.2⟩ : _ ∧ k_ ≠ gb397))) (fun _ hk => hk.2) (.bool true)) (fun _ hk => hk.2) (.bool ((rd_T36 t393 x16_1).f1))) (fun _ hk => hk.2) (.int .i64 ((rd_T36 t393 x16_1).f2))) (fun _ hk => trivial)⟩, ⟨by (with_reducible repeat (first | refine zC ?_ _ | refine zG ?_ | refine zD ?_ _)); refine zL ?_ NB391_397.out _; (with_reducible repeat (first | refine zC ?_ _ | refine zG ?_ | refine zD ?_ _)); refine zL ?_ NB391_397.out _; (with_reducible repeat (first | refine zC ?_ _ | refine zG ?_ | refine zD ?_ _)); refine zL ?_ NB391_397.out _; (with_reducible repeat (first | refine zC ?_ _ | refine zG ?_ | refine zD ?_ _)); exact BK391.out⟩, ⟨by repeat (first | (with_reducible first | exact HB.out | apply zF | apply zA | apply zE | refine zH ?_ GE391.out | refine zH ?_ GE397.out) | exact HB.out)⟩⟩
           ·
            replace c56 := Bool.eq_false_iff.mpr c56
            subst c56
            have H1 : (zW.l0 k1 true false (!((rd_T36 t393 x16_1).f1)) ((rd_T36 t393 x16_1).f1) t393 (t393.length : Int) (wrap64 (x16_1 + 1))) = some (r1, r2) := by rw [if_neg (show ¬ (false = true) by decide)] at H; exact H
            clear H
            have H := H1
            clear H1
            have H' := zB.mk H
            clear H
            have p396 : 0 ≤ (x16_1 : Int) := of_decide_eq_true (by first | (with_reducible assumption) | assumption)
            have q396 : x16_1 < (t393.length : Int) := of_decide_eq_true (by first | (with_reducible assumption) | assumption)
            obtain ⟨ad396, e396, hx396_0, hx396_1, hx396_2⟩ := at_T36 (Kd.R_reads' HO_14.out).2.2 x16_1 p396 q396
            (try rw [← Nbq46.out] at hx396_0)
            (try rw [← Nbq46.out] at hx396_1)
            cases e396
            replace p396 := eq_true p396
            replace q396 := eq_true q396
            go_wp2_with (first | ((with_reducible refine zP (N := 9) rfl ?_); refine zO ?hg (N := 9) ?hd (cs := #[.bool false, .bool false, .int .i64 0]) (t := 36) ?hr ?_; (case hd => rfl); (case hg => rfl); (case hr => first | (go_simp; done) | (go_simp; rfl)); intro gb397 hg w60 hbox hb; have n0_ := zB.mk (Kd.R_below (Kd.R_elderB (by (with_reducible repeat (first | apply Kd.R_alloc | apply Kd.R_drewN | apply Kd.R_drew)); exact HO_14.out) gb397 (Nat.le_of_eq hg.symm)) hb); have n1_ := zB.mk (zN (g := gb391) (o := .cells #[.int .i64 a0_0, .int .i64 a0_1, .slice A0_2 l0_2.length c0_2] 28 (0, 0)) (by (with_reducible repeat (first | refine zC ?_ _ | refine zG ?_ | refine zD ?_ _)); exact BK391.out) hb); have n2_ := zB.mk (zK (by repeat (first | (with_reducible first | exact HB.out | apply zF | apply zA | apply zE | refine zH ?_ GE391.out) | exact HB.out)) hb); have n3_ := zB.mk (hbox); have n4_ := zB.mk ((by rw [hg]; exact (zM (by repeat (first | (with_reducible first | exact HB.out | apply zF | apply zA | apply zE | refine zH ?_ GE391.out) | exact HB.out))) : w.heap.size ≤ gb397)); have n5_ := n4_; have n6_ := zB.mk ((by rw [hg]; exact Nat.ne_of_lt (zQ (by (with_reducible repeat (first | refine zC ?_ _ | refine zG ?_ | refine zD ?_ _)); exact BK391.out)) : gb391 ≠ gb397)); have n7_ := zB.mk n6_.out.symm; clear HO_14; clear BK391; clear HB; have HO_14 := n0_; have BK391 := n1_; have HB := n2_; have BK397 := n3_; have GW397 := n4_; have GE397 := n5_; have NB391_397 := n6_; have NB397_391 := n7_; clear n0_ n1_ n2_ n3_ n4_ n5_ n6_ n7_; clear hb hbox hg; have hnb61 := NB397_391.out; have hnc61 := NB391_397.out; have hcz62_0 : w60.cell? ⟨gb397, 0, none⟩ = some (.bool false) := zJ BK397.out 0; have hcz62_1 : w60.cell? ⟨gb397, 1, none⟩ = some (.bool false) := zJ BK397.out 1; have hcz62_2 : w60.cell? ⟨gb397, 2, none⟩ = some (.int .i64 0) := zJ BK397.out 2; have hfz62_0 := zI BK397.out 0; have hfz62_1 := zI BK397.out 1; have hfz62_2 := zI BK397.out 2))
            go_roundg k1
            case measure => have := HK1.out; omega
            case rel => exact ⟨(true), (false), (!((rd_T36 t393 x16_1).f1)), ((rd_T36 t393 x16_1).f1), (wrap64 (x16_1 + 1)), (by first | rfl | (simp; done) | (simp [*]; done)), (by first | rfl | (simp; done) | (simp [*]; done)), (by first | rfl | (simp; done) | (simp [*]; done)), (by first | rfl | (simp; done) | (simp [*]; done)), (by first | rfl | (simp; done) | (simp [*]; done)), H', ⟨by have := HK1.out; omega⟩, ⟨by (with_reducible repeat (first | apply Kd.R_alloc | apply Kd.R_drewN | apply Kd.R_drew)); exact Kd.R_mono (Kd.R_far (p := ⟨gb397, 2, none⟩) (Kd.R_far (p := ⟨gb397, 1, none⟩) (Kd.R_far (p := ⟨gb397, 0, none⟩) (Kd.R_mono HO_14.out (fun k_ hk => (⟨hk, hk.2⟩ : _ ∧ k_ ≠ gb397))) (fun _ hk => hk.2) (.bool true)) (fun _ hk => hk.2) (.bool ((rd_T36 t393 x16_1).f1))) (fun _ hk => hk.2) (.int .i64 ((rd_T36 t393 x16_1).f2))) (fun _ hk => trivial)⟩, ⟨by (with_reducible repeat (first | refine zC ?_ _ | refine zG ?_ | refine zD ?_ _)); refine zL ?_ NB391_397.out _; (with_reducible repeat (first | refine zC ?_ _ | refine zG ?_ | refine zD ?_ _)); refine zL ?_ NB391_397.out _; (with_reducible repeat (first | refine zC ?_ _ | refine zG ?_ | refine zD ?_ _)); refine zL ?_ NB391_397.out _; (with_reducible repeat (first | refine zC ?_ _ | refine zG ?_ | refine zD ?_ _)); exact BK391.out⟩, ⟨by repeat (first | (with_reducible first | exact HB.out | apply zF | apply zA | apply zE | refine zH ?_ GE391.out | refine zH ?_ GE397.out) | exact HB.out)⟩⟩
         ·
          replace c47 := Bool.eq_false_iff.mpr c47
          subst c47
          have H1 : (if (rd_T36 t393 x16_1).f1 = true then (if x6_1 = true then (if x7_1 = true then (zW.l0 k1 true (((rd_T36 t393 x16_1).f2) != 0) true true t393 (t393.length : Int) (wrap64 (x16_1 + 1))) else (if false = true then (zW.l0 k1 true (((rd_T36 t393 x16_1).f2) != 0) true ((rd_T36 t393 x16_1).f1) t393 (t393.length : Int) (wrap64 (x16_1 + 1))) else (zW.l0 k1 true (((rd_T36 t393 x16_1).f2) != 0) true false t393 (t393.length : Int) (wrap64 (x16_1 + 1))))) else (if false = true then (if x7_1 = true then (zW.l0 k1 true (((rd_T36 t393 x16_1).f2) != 0) (!((rd_T36 t393 x16_1).f1)) true t393 (t393.length : Int) (wrap64 (x16_1 + 1))) else (zW.l0 k1 true (((rd_T36 t393 x16_1).f2) != 0) (!((rd_T36 t393 x16_1).f1)) ((rd_T36 t393 x16_1).f1) t393 (t393.length : Int) (wrap64 (x16_1 + 1)))) else (if x7_1 = true then (zW.l0 k1 true (((rd_T36 t393 x16_1).f2) != 0) false true t393 (t393.length : Int) (wrap64 (x16_1 + 1))) else (zW.l0 k1 true (((rd_T36 t393 x16_1).f2) != 0) false false t393 (t393.length : Int) (wrap64 (x16_1 + 1)))))) else (if x6_1 = true then (if x7_1 = true then (zW.l0 k1 true false true true t393 (t393.length : Int) (wrap64 (x16_1 + 1))) else (if false = true then (zW.l0 k1 true false true ((rd_T36 t393 x16_1).f1) t393 (t393.length : Int) (wrap64 (x16_1 + 1))) else (zW.l0 k1 true false true false t393 (t393.length : Int) (wrap64 (x16_1 + 1))))) else (if false = true then (if x7_1 = true then (zW.l0 k1 true false (!((rd_T36 t393 x16_1).f1)) true t393 (t393.length : Int) (wrap64 (x16_1 + 1))) else (zW.l0 k1 true false (!((rd_T36 t393 x16_1).f1)) ((rd_T36 t393 x16_1).f1) t393 (t393.length : Int) (wrap64 (x16_1 + 1)))) else (if x7_1 = true then (zW.l0 k1 true false false true t393 (t393.length : Int) (wrap64 (x16_1 + 1))) else (zW.l0 k1 true false false false t393 (t393.length : Int) (wrap64 (x16_1 + 1))))))) = some (r1, r2) := by rw [if_neg (show ¬ (false = true) by decide)] at H; exact H
          clear H
          have H := H1
          clear H1
          obtain ⟨bq63, hbq63⟩ : ∃ b_ : Bool, b_ = ((rd_T36 t393 x16_1).f1) := ⟨_, rfl⟩
          replace H : (if bq63 = true then (if x6_1 = true then (if x7_1 = true then (zW.l0 k1 true (((rd_T36 t393 x16_1).f2) != 0) true true t393 (t393.length : Int) (wrap64 (x16_1 + 1))) else (if false = true then (zW.l0 k1 true (((rd_T36 t393 x16_1).f2) != 0) true bq63 t393 (t393.length : Int) (wrap64 (x16_1 + 1))) else (zW.l0 k1 true (((rd_T36 t393 x16_1).f2) != 0) true false t393 (t393.length : Int) (wrap64 (x16_1 + 1))))) else (if false = true then (if x7_1 = true then (zW.l0 k1 true (((rd_T36 t393 x16_1).f2) != 0) (!(bq63)) true t393 (t393.length : Int) (wrap64 (x16_1 + 1))) else (zW.l0 k1 true (((rd_T36 t393 x16_1).f2) != 0) (!(bq63)) bq63 t393 (t393.length : Int) (wrap64 (x16_1 + 1)))) else (if x7_1 = true then (zW.l0 k1 true (((rd_T36 t393 x16_1).f2) != 0) false true t393 (t393.length : Int) (wrap64 (x16_1 + 1))) else (zW.l0 k1 true (((rd_T36 t393 x16_1).f2) != 0) false false t393 (t393.length : Int) (wrap64 (x16_1 + 1)))))) else (if x6_1 = true then (if x7_1 = true then (zW.l0 k1 true false true true t393 (t393.length : Int) (wrap64 (x16_1 + 1))) else (if false = true then (zW.l0 k1 true false true bq63 t393 (t393.length : Int) (wrap64 (x16_1 + 1))) else (zW.l0 k1 true false true false t393 (t393.length : Int) (wrap64 (x16_1 + 1))))) else (if false = true then (if x7_1 = true then (zW.l0 k1 true false (!(bq63)) true t393 (t393.length : Int) (wrap64 (x16_1 + 1))) else (zW.l0 k1 true false (!(bq63)) bq63 t393 (t393.length : Int) (wrap64 (x16_1 + 1)))) else (if x7_1 = true then (zW.l0 k1 true false false true t393 (t393.length : Int) (wrap64 (x16_1 + 1))) else (zW.l0 k1 true false false false t393 (t393.length : Int) (wrap64 (x16_1 + 1))))))) = some (r1, r2) := by rw [← hbq63] at H; exact H
          have Nbq63 := zB.mk hbq63
          clear hbq63
          by_cases c64 : bq63 = true
          ·
           subst c64
           have H1 : (if x6_1 = true then (if x7_1 = true then (zW.l0 k1 true (((rd_T36 t393 x16_1).f2) != 0) true true t393 (t393.length : Int) (wrap64 (x16_1 + 1))) else (if false = true then (zW.l0 k1 true (((rd_T36 t393 x16_1).f2) != 0) true true t393 (t393.length : Int) (wrap64 (x16_1 + 1))) else (zW.l0 k1 true (((rd_T36 t393 x16_1).f2) != 0) true false t393 (t393.length : Int) (wrap64 (x16_1 + 1))))) else (if false = true then (if x7_1 = true then (zW.l0 k1 true (((rd_T36 t393 x16_1).f2) != 0) (!(true)) true t393 (t393.length : Int) (wrap64 (x16_1 + 1))) else (zW.l0 k1 true (((rd_T36 t393 x16_1).f2) != 0) (!(true)) true t393 (t393.length : Int) (wrap64 (x16_1 + 1)))) else (if x7_1 = true then (zW.l0 k1 true (((rd_T36 t393 x16_1).f2) != 0) false true t393 (t393.length : Int) (wrap64 (x16_1 + 1))) else (zW.l0 k1 true (((rd_T36 t393 x16_1).f2) != 0) false false t393 (t393.length : Int) (wrap64 (x16_1 + 1)))))) = some (r1, r2) := by rw [if_pos rfl] at H; exact H
           clear H
           have H := H1
           clear H1
           by_cases c65 : x6_1 = true
           ·
            subst c65
            have H1 : (if x7_1 = true then (zW.l0 k1 true (((rd_T36 t393 x16_1).f2) != 0) true true t393 (t393.length : Int) (wrap64 (x16_1 + 1))) else (if false = true then (zW.l0 k1 true (((rd_T36 t393 x16_1).f2) != 0) true true t393 (t393.length : Int) (wrap64 (x16_1 + 1))) else (zW.l0 k1 true (((rd_T36 t393 x16_1).f2) != 0) true false t393 (t393.length : Int) (wrap64 (x16_1 + 1))))) = some (r1, r2) := by rw [if_pos rfl] at H; exact H
            clear H
            have H := H1
            clear H1
            by_cases c66 : x7_1 = true
            ·
             subst c66
             have H1 : (zW.l0 k1 true (((rd_T36 t393 x16_1).f2) != 0) true true t393 (t393.length : Int) (wrap64 (x16_1 + 1))) = some (r1, r2) := by rw [if_pos rfl] at H; exact H
             clear H
             have H := H1
             clear H1
             have H' := zB.mk H
             clear H
             have p396 : 0 ≤ (x16_1 : Int) := of_decide_eq_true (by first | (with_reducible assumption) | assumption)
             have q396 : x16_1 < (t393.length : Int) := of_decide_eq_true (by first | (with_reducible assumption) | assumption)
             obtain ⟨ad396, e396, hx396_0, hx396_1, hx396_2⟩ := at_T36 (Kd.R_reads' HO_14.out).2.2 x16_1 p396 q396
             (try rw [← Nbq46.out] at hx396_0)
             (try rw [← Nbq63.out] at hx396_0)
             (try rw [← Nbq46.out] at hx396_1)
             (try rw [← Nbq63.out] at hx396_1)
             cases e396
             replace p396 := eq_true p396
             replace q396 := eq_true q396
             go_wp2_with (first | ((with_reducible refine zP (N := 9) rfl ?_); refine zO ?hg (N := 9) ?hd (cs := #[.bool false, .bool false, .int .i64 0]) (t := 36) ?hr ?_; (case hd => rfl); (case hg => rfl); (case hr => first | (go_simp; done) | (go_simp; rfl)); intro gb397 hg w67 hbox hb; have n0_ := zB.mk (Kd.R_below (Kd.R_elderB (by (with_reducible repeat (first | apply Kd.R_alloc | apply Kd.R_drewN | apply Kd.R_drew)); exact HO_14.out) gb397 (Nat.le_of_eq hg.symm)) hb); have n1_ := zB.mk (zN (g := gb391) (o := .cells #[.int .i64 a0_0, .int .i64 a0_1, .slice A0_2 l0_2.length c0_2] 28 (0, 0)) (by (with_reducible repeat (first | refine zC ?_ _ | refine zG ?_ | refine zD ?_ _)); exact BK391.out) hb); have n2_ := zB.mk (zK (by repeat (first | (with_reducible first | exact HB.out | apply zF | apply zA | apply zE | refine zH ?_ GE391.out) | exact HB.out)) hb); have n3_ := zB.mk (hbox); have n4_ := zB.mk ((by rw [hg]; exact (zM (by repeat (first | (with_reducible first | exact HB.out | apply zF | apply zA | apply zE | refine zH ?_ GE391.out) | exact HB.out))) : w.heap.size ≤ gb397)); have n5_ := n4_; have n6_ := zB.mk ((by rw [hg]; exact Nat.ne_of_lt (zQ (by (with_reducible repeat (first | refine zC ?_ _ | refine zG ?_ | refine zD ?_ _)); exact BK391.out)) : gb391 ≠ gb397)); have n7_ := zB.mk n6_.out.symm; clear HO_14; clear BK391; clear HB; have HO_14 := n0_; have BK391 := n1_; have HB := n2_; have BK397 := n3_; have GW397 := n4_; have GE397 := n5_; have NB391_397 := n6_; have NB397_391 := n7_; clear n0_ n1_ n2_ n3_ n4_ n5_ n6_ n7_; clear hb hbox hg; have hnb68 := NB397_391.out; have hnc68 := NB391_397.out; have hcz69_0 : w67.cell? ⟨gb397, 0, none⟩ = some (.bool false) := zJ BK397.out 0; have hcz69_1 : w67.cell? ⟨gb397, 1, none⟩ = some (.bool false) := zJ BK397.out 1; have hcz69_2 : w67.cell? ⟨gb397, 2, none⟩ = some (.int .i64 0) := zJ BK397.out 2; have hfz69_0 := zI BK397.out 0; have hfz69_1 := zI BK397.out 1; have hfz69_2 := zI BK397.out 2))
             go_roundg k1
             case measure => have := HK1.out; omega
             case rel => exact ⟨(true), ((((rd_T36 t393 x16_1).f2) != 0)), (true), (true), (wrap64 (x16_1 + 1)), (by first | rfl | (simp; done) | (simp [*]; done)), (by first | rfl | (simp; done) | (simp [*]; done)), (by first | rfl | (simp; done) | (simp [*]; done)), (by first | rfl | (simp; done) | (simp [*]; done)), (by first | rfl | (simp; done) | (simp [*]; done)), H', ⟨by have := HK1.out; omega⟩, ⟨by (with_reducible repeat (first | apply Kd.R_alloc | apply Kd.R_drewN | apply Kd.R_drew)); exact Kd.R_mono (Kd.R_far (p := ⟨gb397, 2, none⟩) (Kd.R_far (p := ⟨gb397, 1, none⟩) (Kd.R_far (p := ⟨gb397, 0, none⟩) (Kd.R_mono HO_14.out (fun k_ hk => (⟨hk, hk.2⟩ : _ ∧ k_ ≠ gb397))) (fun _ hk => hk.2) (.bool false)) (fun _ hk => hk.2) (.bool true)) (fun _ hk => hk.2) (.int .i64 ((rd_T36 t393 x16_1).f2))) (fun _ hk => trivial)⟩, ⟨by (with_reducible repeat (first | refine zC ?_ _ | refine zG ?_ | refine zD ?_ _)); refine zL ?_ NB391_397.out _; (with_reducible repeat (first | refine zC ?_ _ | refine zG ?_ | refine zD ?_ _)); refine zL ?_ NB391_397.out _; (with_reducible repeat (first | refine zC ?_ _ | refine zG ?_ | refine zD ?_ _)); refine zL ?_ NB391_397.out _; (with_reducible repeat (first | refine zC ?_ _ | refine zG ?_ | refine zD ?_ _)); exact BK391.out⟩, ⟨by repeat (first | (with_reducible first | exact HB.out | apply zF | apply zA | apply zE | refine zH ?_ GE391.out | refine zH ?_ GE397.out) | exact HB.out)⟩⟩
            ·
             replace c66 := Bool.eq_false_iff.mpr c66
             subst c66
             have H1 : (if false = true then (zW.l0 k1 true (((rd_T36 t393 x16_1).f2) != 0) true true t393 (t393.length : Int) (wrap64 (x16_1 + 1))) else (zW.l0 k1 true (((rd_T36 t393 x16_1).f2) != 0) true false t393 (t393.length : Int) (wrap64 (x16_1 + 1)))) = some (r1, r2) := by rw [if_neg (show ¬ (false = true) by decide)] at H; exact H
             clear H
             have H := H1
             clear H1
             have H1 : (zW.l0 k1 true (((rd_T36 t393 x16_1).f2) != 0) true false t393 (t393.length : Int) (wrap64 (x16_1 + 1))) = some (r1, r2) := by rw [if_neg (show ¬ (false = true) by decide)] at H; exact H
             clear H
             have H := H1
             clear H1
             have H' := zB.mk H
             clear H
             have p396 : 0 ≤ (x16_1 : Int) := of_decide_eq_true (by first | (with_reducible assumption) | assumption)
             have q396 : x16_1 < (t393.length : Int) := of_decide_eq_true (by first | (with_reducible assumption) | assumption)
             obtain ⟨ad396, e396, hx396_0, hx396_1, hx396_2⟩ := at_T36 (Kd.R_reads' HO_14.out).2.2 x16_1 p396 q396
             (try rw [← Nbq46.out] at hx396_0)
             (try rw [← Nbq63.out] at hx396_0)
             (try rw [← Nbq46.out] at hx396_1)
             (try rw [← Nbq63.out] at hx396_1)
             cases e396
             replace p396 := eq_true p396
             replace q396 := eq_true q396
             go_wp2_with (first | ((with_reducible refine zP (N := 9) rfl ?_); refine zO ?hg (N := 9) ?hd (cs := #[.bool false, .bool false, .int .i64 0]) (t := 36) ?hr ?_; (case hd => rfl); (case hg => rfl); (case hr => first | (go_simp; done) | (go_simp; rfl)); intro gb397 hg w70 hbox hb; have n0_ := zB.mk (Kd.R_below (Kd.R_elderB (by (with_reducible repeat (first | apply Kd.R_alloc | apply Kd.R_drewN | apply Kd.R_drew)); exact HO_14.out) gb397 (Nat.le_of_eq hg.symm)) hb); have n1_ := zB.mk (zN (g := gb391) (o := .cells #[.int .i64 a0_0, .int .i64 a0_1, .slice A0_2 l0_2.length c0_2] 28 (0, 0)) (by (with_reducible repeat (first | refine zC ?_ _ | refine zG ?_ | refine zD ?_ _)); exact BK391.out) hb); have n2_ := zB.mk (zK (by repeat (first | (with_reducible first | exact HB.out | apply zF | apply zA | apply zE | refine zH ?_ GE391.out) | exact HB.out)) hb); have n3_ := zB.mk (hbox); have n4_ := zB.mk ((by rw [hg]; exact (zM (by repeat (first | (with_reducible first | exact HB.out | apply zF | apply zA | apply zE | refine zH ?_ GE391.out) | exact HB.out))) : w.heap.size ≤ gb397)); have n5_ := n4_; have n6_ := zB.mk ((by rw [hg]; exact Nat.ne_of_lt (zQ (by (with_reducible repeat (first | refine zC ?_ _ | refine zG ?_ | refine zD ?_ _)); exact BK391.out)) : gb391 ≠ gb397)); have n7_ := zB.mk n6_.out.symm; clear HO_14; clear BK391; clear HB; have HO_14 := n0_; have BK391 := n1_; have HB := n2_; have BK397 := n3_; have GW397 := n4_; have GE397 := n5_; have NB391_397 := n6_; have NB397_391 := n7_; clear n0_ n1_ n2_ n3_ n4_ n5_ n6_ n7_; clear hb hbox hg; have hnb71 := NB397_391.out; have hnc71 := NB391_397.out; have hcz72_0 : w70.cell? ⟨gb397, 0, none⟩ = some (.bool false) := zJ BK397.out 0; have hcz72_1 : w70.cell? ⟨gb397, 1, none⟩ = some (.bool false) := zJ BK397.out 1; have hcz72_2 : w70.cell? ⟨gb397, 2, none⟩ = some (.int .i64 0) := zJ BK397.out 2; have hfz72_0 := zI BK397.out 0; have hfz72_1 := zI BK397.out 1; have hfz72_2 := zI BK397.out 2))
             go_roundg k1
             case measure => have := HK1.out; omega
             case rel => exact ⟨(true), ((((rd_T36 t393 x16_1).f2) != 0)), (true), (false), (wrap64 (x16_1 + 1)), (by first | rfl | (simp; done) | (simp [*]; done)), (by first | rfl | (simp; done) | (simp [*]; done)), (by first | rfl | (simp; done) | (simp [*]; done)), (by first | rfl | (simp; done) | (simp [*]; done)), (by first | rfl | (simp; done) | (simp [*]; done)), H', ⟨by have := HK1.out; omega⟩, ⟨by (with_reducible repeat (first | apply Kd.R_alloc | apply Kd.R_drewN | apply Kd.R_drew)); exact Kd.R_mono (Kd.R_far (p := ⟨gb397, 2, none⟩) (Kd.R_far (p := ⟨gb397, 1, none⟩) (Kd.R_far (p := ⟨gb397, 0, none⟩) (Kd.R_mono HO_14.out (fun k_ hk => (⟨hk, hk.2⟩ : _ ∧ k_ ≠ gb397))) (fun _ hk => hk.2) (.bool false)) (fun _ hk => hk.2) (.bool true)) (fun _ hk => hk.2) (.int .i64 ((rd_T36 t393 x16_1).f2))) (fun _ hk => trivial)⟩, ⟨by (with_reducible repeat (first | refine zC ?_ _ | refine zG ?_ | refine zD ?_ _)); refine zL ?_ NB391_397.out _; (with_reducible repeat (first | refine zC ?_ _ | refine zG ?_ | refine zD ?_ _)); refine zL ?_ NB391_397.out _; (with_reducible repeat (first | refine zC ?_ _ | refine zG ?_ | refine zD ?_ _)); refine zL ?_ NB391_397.out _; (with_reducible repeat (first | refine zC ?_ _ | refine zG ?_ | refine zD ?_ _)); exact BK391.out⟩, ⟨by repeat (first | (with_reducible first | exact HB.out | apply zF | apply zA | apply zE | refine zH ?_ GE391.out | refine zH ?_ GE397.out) | exact HB.out)⟩⟩
           ·
            replace c65 := Bool.eq_false_iff.mpr c65
            subst c65
            have H1 : (if false = true then (if x7_1 = true then (zW.l0 k1 true (((rd_T36 t393 x16_1).f2) != 0) (!(true)) true t393 (t393.length : Int) (wrap64 (x16_1 + 1))) else (zW.l0 k1 true (((rd_T36 t393 x16_1).f2) != 0) (!(true)) true t393 (t393.length : Int) (wrap64 (x16_1 + 1)))) else (if x7_1 = true then (zW.l0 k1 true (((rd_T36 t393 x16_1).f2) != 0) false true t393 (t393.length : Int) (wrap64 (x16_1 + 1))) else (zW.l0 k1 true (((rd_T36 t393 x16_1).f2) != 0) false false t393 (t393.length : Int) (wrap64 (x16_1 + 1))))) = some (r1, r2) := by rw [if_neg (show ¬ (false = true) by decide)] at H; exact H
            clear H
            have H := H1
            clear H1
            have H1 : (if x7_1 = true then (zW.l0 k1 true (((rd_T36 t393 x16_1).f2) != 0) false true t393 (t393.length : Int) (wrap64 (x16_1 + 1))) else (zW.l0 k1 true (((rd_T36 t393 x16_1).f2) != 0) false false t393 (t393.length : Int) (wrap64 (x16_1 + 1)))) = some (r1, r2) := by rw [if_neg (show ¬ (false = true) by decide)] at H; exact H
            clear H
            have H := H1
            clear H1
            by_cases c73 : x7_1 = true
            ·
             subst c73
             have H1 : (zW.l0 k1 true (((rd_T36 t393 x16_1).f2) != 0) false true t393 (t393.length : Int) (wrap64 (x16_1 + 1))) = some (r1, r2) := by rw [if_pos rfl] at H; exact H
             clear H
             have H := H1
             clear H1
             have H' := zB.mk H
             clear H
             have p396 : 0 ≤ (x16_1 : Int) := of_decide_eq_true (by first | (with_reducible assumption) | assumption)
             have q396 : x16_1 < (t393.length : Int) := of_decide_eq_true (by first | (with_reducible assumption) | assumption)
             obtain ⟨ad396, e396, hx396_0, hx396_1, hx396_2⟩ := at_T36 (Kd.R_reads' HO_14.out).2.2 x16_1 p396 q396
             (try rw [← Nbq46.out] at hx396_0)
             (try rw [← Nbq63.out] at hx396_0)
             (try rw [← Nbq46.out] at hx396_1)
             (try rw [← Nbq63.out] at hx396_1)
             cases e396
             replace p396 := eq_true p396
             replace q396 := eq_true q396
             go_wp2_with (first | ((with_reducible refine zP (N := 9) rfl ?_); refine zO ?hg (N := 9) ?hd (cs := #[.bool false, .bool false, .int .i64 0]) (t := 36) ?hr ?_; (case hd => rfl); (case hg => rfl); (case hr => first | (go_simp; done) | (go_simp; rfl)); intro gb397 hg w74 hbox hb; have n0_ := zB.mk (Kd.R_below (Kd.R_elderB (by (with_reducible repeat (first | apply Kd.R_alloc | apply Kd.R_drewN | apply Kd.R_drew)); exact HO_14.out) gb397 (Nat.le_of_eq hg.symm)) hb); have n1_ := zB.mk (zN (g := gb391) (o := .cells #[.int .i64 a0_0, .int .i64 a0_1, .slice A0_2 l0_2.length c0_2] 28 (0, 0)) (by (with_reducible repeat (first | refine zC ?_ _ | refine zG ?_ | refine zD ?_ _)); exact BK391.out) hb); have n2_ := zB.mk (zK (by repeat (first | (with_reducible first | exact HB.out | apply zF | apply zA | apply zE | refine zH ?_ GE391.out) | exact HB.out)) hb); have n3_ := zB.mk (hbox); have n4_ := zB.mk ((by rw [hg]; exact (zM (by repeat (first | (with_reducible first | exact HB.out | apply zF | apply zA | apply zE | refine zH ?_ GE391.out) | exact HB.out))) : w.heap.size ≤ gb397)); have n5_ := n4_; have n6_ := zB.mk ((by rw [hg]; exact Nat.ne_of_lt (zQ (by (with_reducible repeat (first | refine zC ?_ _ | refine zG ?_ | refine zD ?_ _)); exact BK391.out)) : gb391 ≠ gb397)); have n7_ := zB.mk n6_.out.symm; clear HO_14; clear BK391; clear HB; have HO_14 := n0_; have BK391 := n1_; have HB := n2_; have BK397 := n3_; have GW397 := n4_; have GE397 := n5_; have NB391_397 := n6_; have NB397_391 := n7_; clear n0_ n1_ n2_ n3_ n4_ n5_ n6_ n7_; clear hb hbox hg; have hnb75 := NB397_391.out; have hnc75 := NB391_397.out; have hcz76_0 : w74.cell? ⟨gb397, 0, none⟩ = some (.bool false) := zJ BK397.out 0; have hcz76_1 : w74.cell? ⟨gb397, 1, none⟩ = some (.bool false) := zJ BK397.out 1; have hcz76_2 : w74.cell? ⟨gb397, 2, none⟩ = some (.int .i64 0) := zJ BK397.out 2; have hfz76_0 := zI BK397.out 0; have hfz76_1 := zI BK397.out 1; have hfz76_2 := zI BK397.out 2))
             go_roundg k1
             case measure => have := HK1.out; omega
             case rel => exact ⟨(true), ((((rd_T36 t393 x16_1).f2) != 0)), (false), (true), (wrap64 (x16_1 + 1)), (by first | rfl | (simp; done) | (simp [*]; done)), (by first | rfl | (simp; done) | (simp [*]; done)), (by first | rfl | (simp; done) | (simp [*]; done)), (by first | rfl | (simp; done) | (simp [*]; done)), (by first | rfl | (simp; done) | (simp [*]; done)), H', ⟨by have := HK1.out; omega⟩, ⟨by (with_reducible repeat (first | apply Kd.R_alloc | apply Kd.R_drewN | apply Kd.R_drew)); exact Kd.R_mono (Kd.R_far (p := ⟨gb397, 2, none⟩) (Kd.R_far (p := ⟨gb397, 1, none⟩) (Kd.R_far (p := ⟨gb397, 0, none⟩) (Kd.R_mono HO_14.out (fun k_ hk => (⟨hk, hk.2⟩ : _ ∧ k_ ≠ gb397))) (fun _ hk => hk.2) (.bool false)) (fun _ hk => hk.2) (.bool true)) (fun _ hk => hk.2) (.int .i64 ((rd_T36 t393 x16_1).f2))) (fun _ hk => trivial)⟩, ⟨by (with_reducible repeat (first | refine zC ?_ _ | refine zG ?_ | refine zD ?_ _)); refine zL ?_ NB391_397.out _; (with_reducible repeat (first | refine zC ?_ _ | refine zG ?_ | refine zD ?_ _)); refine zL ?_ NB391_397.out _; (with_reducible repeat (first | refine zC ?_ _ | refine zG ?_ | refine zD ?_ _)); refine zL ?_ NB391_397.out _; (with_reducible repeat (first | refine zC ?_ _ | refine zG ?_ | refine zD ?_ _)); exact BK391.out⟩, ⟨by repeat (first | (with_reducible first | exact HB.out | apply zF | apply zA | apply zE | refine zH ?_ GE391.out | refine zH ?_ GE397.out) | exact HB.out)⟩⟩
            ·
             replace c73 := Bool.eq_false_iff.mpr c73
             subst c73
             have H1 : (zW.l0 k1 true (((rd_T36 t393 x16_1).f2) != 0) false false t393 (t393.length : Int) (wrap64 (x16_1 + 1))) = some (r1, r2) := by rw [if_neg (show ¬ (false = true) by decide)] at H; exact H
             clear H
             have H := H1
             clear H1
             have H' := zB.mk H
             clear H
             have p396 : 0 ≤ (x16_1 : Int) := of_decide_eq_true (by first | (with_reducible assumption) | assumption)
             have q396 : x16_1 < (t393.length : Int) := of_decide_eq_true (by first | (with_reducible assumption) | assumption)
             obtain ⟨ad396, e396, hx396_0, hx396_1, hx396_2⟩ := at_T36 (Kd.R_reads' HO_14.out).2.2 x16_1 p396 q396
             (try rw [← Nbq46.out] at hx396_0)
             (try rw [← Nbq63.out] at hx396_0)
             (try rw [← Nbq46.out] at hx396_1)
             (try rw [← Nbq63.out] at hx396_1)
             cases e396
             replace p396 := eq_true p396
             replace q396 := eq_true q396
             go_wp2_with (first | ((with_reducible refine zP (N := 9) rfl ?_); refine zO ?hg (N := 9) ?hd (cs := #[.bool false, .bool false, .int .i64 0]) (t := 36) ?hr ?_; (case hd => rfl); (case hg => rfl); (case hr => first | (go_simp; done) | (go_simp; rfl)); intro gb397 hg w77 hbox hb; have n0_ := zB.mk (Kd.R_below (Kd.R_elderB (by (with_reducible repeat (first | apply Kd.R_alloc | apply Kd.R_drewN | apply Kd.R_drew)); exact HO_14.out) gb397 (Nat.le_of_eq hg.symm)) hb); have n1_ := zB.mk (zN (g := gb391) (o := .cells #[.int .i64 a0_0, .int .i64 a0_1, .slice A0_2 l0_2.length c0_2] 28 (0, 0)) (by (with_reducible repeat (first | refine zC ?_ _ | refine zG ?_ | refine zD ?_ _)); exact BK391.out) hb); have n2_ := zB.mk (zK (by repeat (first | (with_reducible first | exact HB.out | apply zF | apply zA | apply zE | refine zH ?_ GE391.out) | exact HB.out)) hb); have n3_ := zB.mk (hbox); have n4_ := zB.mk ((by rw [hg]; exact (zM (by repeat (first | (with_reducible first | exact HB.out | apply zF | apply zA | apply zE | refine zH ?_ GE391.out) | exact HB.out))) : w.heap.size ≤ gb397)); have n5_ := n4_; have n6_ := zB.mk ((by rw [hg]; exact Nat.ne_of_lt (zQ (by (with_reducible repeat (first | refine zC ?_ _ | refine zG ?_ | refine zD ?_ _)); exact BK391.out)) : gb391 ≠ gb397)); have n7_ := zB.mk n6_.out.symm; clear HO_14; clear BK391; clear HB; have HO_14 := n0_; have BK391 := n1_; have HB := n2_; have BK397 := n3_; have GW397 := n4_; have GE397 := n5_; have NB391_397 := n6_; have NB397_391 := n7_; clear n0_ n1_ n2_ n3_ n4_ n5_ n6_ n7_; clear hb hbox hg; have hnb78 := NB397_391.out; have hnc78 := NB391_397.out; have hcz79_0 : w77.cell? ⟨gb397, 0, none⟩ = some (.bool false) := zJ BK397.out 0; have hcz79_1 : w77.cell? ⟨gb397, 1, none⟩ = some (.bool false) := zJ BK397.out 1; have hcz79_2 : w77.cell? ⟨gb397, 2, none⟩ = some (.int .i64 0) := zJ BK397.out 2; have hfz79_0 := zI BK397.out 0; have hfz79_1 := zI BK397.out 1; have hfz79_2 := zI BK397.out 2))
             go_roundg k1
             case measure => have := HK1.out; omega
             case rel => exact ⟨(true), ((((rd_T36 t393 x16_1).f2) != 0)), (false), (false), (wrap64 (x16_1 + 1)), (by first | rfl | (simp; done) | (simp [*]; done)), (by first | rfl | (simp; done) | (simp [*]; done)), (by first | rfl | (simp; done) | (simp [*]; done)), (by first | rfl | (simp; done) | (simp [*]; done)), (by first | rfl | (simp; done) | (simp [*]; done)), H', ⟨by have := HK1.out; omega⟩, ⟨by (with_reducible repeat (first | apply Kd.R_alloc | apply Kd.R_drewN | apply Kd.R_drew)); exact Kd.R_mono (Kd.R_far (p := ⟨gb397, 2, none⟩) (Kd.R_far (p := ⟨gb397, 1, none⟩) (Kd.R_far (p := ⟨gb397, 0, none⟩) (Kd.R_mono HO_14.out (fun k_ hk => (⟨hk, hk.2⟩ : _ ∧ k_ ≠ gb397))) (fun _ hk => hk.2) (.bool false)) (fun _ hk => hk.2) (.bool true)) (fun _ hk => hk.2) (.int .i64 ((rd_T36 t393 x16_1).f2))) (fun _ hk => trivial)⟩, ⟨by (with_reducible repeat (first | refine zC ?_ _ | refine zG ?_ | refine zD ?_ _)); refine zL ?_ NB391_397.out _; (with_reducible repeat (first | refine zC ?_ _ | refine zG ?_ | refine zD ?_ _)); refine zL ?_ NB391_397.out _; (with_reducible repeat (first | refine zC ?_ _ | refine zG ?_ | refine zD ?_ _)); refine zL ?_ NB391_397.out _; (with_reducible repeat (first | refine zC ?_ _ | refine zG ?_ | refine zD ?_ _)); exact BK391.out⟩, ⟨by repeat (first | (with_reducible first | exact HB.out | apply zF | apply zA | apply zE | refine zH ?_ GE391.out | refine zH ?_ GE397.out) | exact HB.out)⟩⟩
          ·
           replace c64 := Bool.eq_false_iff.mpr c64
           subst c64
           have H1 : (if x6_1 = true then (if x7_1 = true then (zW.l0 k1 true false true true t393 (t393.length : Int) (wrap64 (x16_1 + 1))) else (if false = true then (zW.l0 k1 true false true false t393 (t393.length : Int) (wrap64 (x16_1 + 1))) else (zW.l0 k1 true false true false t393 (t393.length : Int) (wrap64 (x16_1 + 1))))) else (if false = true then (if x7_1 = true then (zW.l0 k1 true false (!(false)) true t393 (t393.length : Int) (wrap64 (x16_1 + 1))) else (zW.l0 k1 true false (!(false)) false t393 (t393.length : Int) (wrap64 (x16_1 + 1)))) else (if x7_1 = true then (zW.l0 k1 true false false true t393 (t393.length : Int) (wrap64 (x16_1 + 1))) else (zW.l0 k1 true false false false t393 (t393.length : Int) (wrap64 (x16_1 + 1)))))) = some (r1, r2) := by rw [if_neg (show ¬ (false = true) by decide)] at H; exact H
           clear H
           have H := H1
           clear H1
           by_cases c80 : x6_1 = true
           ·
            subst c80
            have H1 : (if x7_1 = true then (zW.l0 k1 true false true true t393 (t393.length : Int) (wrap64 (x16_1 + 1))) else (if false = true then (zW.l0 k1 true false true false t393 (t393.length : Int) (wrap64 (x16_1 + 1))) else (zW.l0 k1 true false true false t393 (t393.length : Int) (wrap64 (x16_1 + 1))))) = some (r1, r2) := by rw [if_pos rfl] at H; exact H
            clear H
            have H := H1
            clear H1
            by_cases c81 : x7_1 = true
            ·
             subst c81
             have H1 : (zW.l0 k1 true false true true t393 (t393.length : Int) (wrap64 (x16_1 + 1))) = some (r1, r2) := by rw [if_pos rfl] at H; exact H
             clear H
             have H := H1
             clear H1
             have H' := zB.mk H
             clear H
             have p396 : 0 ≤ (x16_1 : Int) := of_decide_eq_true (by first | (with_reducible assumption) | assumption)
             have q396 : x16_1 < (t393.length : Int) := of_decide_eq_true (by first | (with_reducible assumption) | assumption)
             obtain ⟨ad396, e396, hx396_0, hx396_1, hx396_2⟩ := at_T36 (Kd.R_reads' HO_14.out).2.2 x16_1 p396 q396
             (try rw [← Nbq46.out] at hx396_0)
             (try rw [← Nbq63.out] at hx396_0)
             (try rw [← Nbq46.out] at hx396_1)
             (try rw [← Nbq63.out] at hx396_1)
             cases e396
             replace p396 := eq_true p396
             replace q396 := eq_true q396
             go_wp2_with (first | ((with_reducible refine zP (N := 9) rfl ?_); refine zO ?hg (N := 9) ?hd (cs := #[.bool false, .bool false, .int .i64 0]) (t := 36) ?hr ?_; (case hd => rfl); (case hg => rfl); (case hr => first | (go_simp; done) | (go_simp; rfl)); intro gb397 hg w82 hbox hb; have n0_ := zB.mk (Kd.R_below (Kd.R_elderB (by (with_reducible repeat (first | apply Kd.R_alloc | apply Kd.R_drewN | apply Kd.R_drew)); exact HO_14.out) gb397 (Nat.le_of_eq hg.symm)) hb); have n1_ := zB.mk (zN (g := gb391) (o := .cells #[.int .i64 a0_0, .int .i64 a0_1, .slice A0_2 l0_2.length c0_2] 28 (0, 0)) (by (with_reducible repeat (first | refine zC ?_ _ | refine zG ?_ | refine zD ?_ _)); exact BK391.out) hb); have n2_ := zB.mk (zK (by repeat (first | (with_reducible first | exact HB.out | apply zF | apply zA | apply zE | refine zH ?_ GE391.out) | exact HB.out)) hb); have n3_ := zB.mk (hbox); have n4_ := zB.mk ((by rw [hg]; exact (zM (by repeat (first | (with_reducible first | exact HB.out | apply zF | apply zA | apply zE | refine zH ?_ GE391.out) | exact HB.out))) : w.heap.size ≤ gb397)); have n5_ := n4_; have n6_ := zB.mk ((by rw [hg]; exact Nat.ne_of_lt (zQ (by (with_reducible repeat (first | refine zC ?_ _ | refine zG ?_ | refine zD ?_ _)); exact BK391.out)) : gb391 ≠ gb397)); have n7_ := zB.mk n6_.out.symm; clear HO_14; clear BK391; clear HB; have HO_14 := n0_; have BK391 := n1_; have HB := n2_; have BK397 := n3_; have GW397 := n4_; have GE397 := n5_; have NB391_397 := n6_; have NB397_391 := n7_; clear n0_ n1_ n2_ n3_ n4_ n5_ n6_ n7_; clear hb hbox hg; have hnb83 := NB397_391.out; have hnc83 := NB391_397.out; have hcz84_0 : w82.cell? ⟨gb397, 0, none⟩ = some (.bool false) := zJ BK397.out 0; have hcz84_1 : w82.cell? ⟨gb397, 1, none⟩ = some (.bool false) := zJ BK397.out 1; have hcz84_2 : w82.cell? ⟨gb397, 2, none⟩ = some (.int .i64 0) := zJ BK397.out 2; have hfz84_0 := zI BK397.out 0; have hfz84_1 := zI BK397.out 1; have hfz84_2 := zI BK397.out 2))
             go_roundg k1
             case measure => have := HK1.out; omega
             case rel => exact ⟨(true), (false), (true), (true), (wrap64 (x16_1 + 1)), (by first | rfl | (simp; done) | (simp [*]; done)), (by first | rfl | (simp; done) | (simp [*]; done)), (by first | rfl | (simp; done) | (simp [*]; done)), (by first | rfl | (simp; done) | (simp [*]; done)), (by first | rfl | (simp; done) | (simp [*]; done)), H', ⟨by have := HK1.out; omega⟩, ⟨by (with_reducible repeat (first | apply Kd.R_alloc | apply Kd.R_drewN | apply Kd.R_drew)); exact Kd.R_mono (Kd.R_far (p := ⟨gb397, 2, none⟩) (Kd.R_far (p := ⟨gb397, 1, none⟩) (Kd.R_far (p := ⟨gb397, 0, none⟩) (Kd.R_mono HO_14.out (fun k_ hk => (⟨hk, hk.2⟩ : _ ∧ k_ ≠ gb397))) (fun _ hk => hk.2) (.bool false)) (fun _ hk => hk.2) (.bool false)) (fun _ hk => hk.2) (.int .i64 ((rd_T36 t393 x16_1).f2))) (fun _ hk => trivial)⟩, ⟨by (with_reducible repeat (first | refine zC ?_ _ | refine zG ?_ | refine zD ?_ _)); refine zL ?_ NB391_397.out _; (with_reducible repeat (first | refine zC ?_ _ | refine zG ?_ | refine zD ?_ _)); refine zL ?_ NB391_397.out _; (with_reducible repeat (first | refine zC ?_ _ | refine zG ?_ | refine zD ?_ _)); refine zL ?_ NB391_397.out _; (with_reducible repeat (first | refine zC ?_ _ | refine zG ?_ | refine zD ?_ _)); exact BK391.out⟩, ⟨by repeat (first | (with_reducible first | exact HB.out | apply zF | apply zA | apply zE | refine zH ?_ GE391.out | refine zH ?_ GE397.out) | exact HB.out)⟩⟩
            ·
             replace c81 := Bool.eq_false_iff.mpr c81
             subst c81
             have H1 : (if false = true then (zW.l0 k1 true false true false t393 (t393.length : Int) (wrap64 (x16_1 + 1))) else (zW.l0 k1 true false true false t393 (t393.length : Int) (wrap64 (x16_1 + 1)))) = some (r1, r2) := by rw [if_neg (show ¬ (false = true) by decide)] at H; exact H
             clear H
             have H := H1
             clear H1
             have H1 : (zW.l0 k1 true false true false t393 (t393.length : Int) (wrap64 (x16_1 + 1))) = some (r1, r2) := by rw [if_neg (show ¬ (false = true) by decide)] at H; exact H
             clear H
             have H := H1
             clear H1
             have H' := zB.mk H
             clear H
             have p396 : 0 ≤ (x16_1 : Int) := of_decide_eq_true (by first | (with_reducible assumption) | assumption)
             have q396 : x16_1 < (t393.length : Int) := of_decide_eq_true (by first | (with_reducible assumption) | assumption)
             obtain ⟨ad396, e396, hx396_0, hx396_1, hx396_2⟩ := at_T36 (Kd.R_reads' HO_14.out).2.2 x16_1 p396 q396
             (try rw [← Nbq46.out] at hx396_0)
             (try rw [← Nbq63.out] at hx396_0)
             (try rw [← Nbq46.out] at hx396_1)
             (try rw [← Nbq63.out] at hx396_1)
             cases e396
             replace p396 := eq_true p396
             replace q396 := eq_true q396
             go_wp2_with (first | ((with_reducible refine zP (N := 9) rfl ?_); refine zO ?hg (N := 9) ?hd (cs := #[.bool false, .bool false, .int .i64 0]) (t := 36) ?hr ?_; (case hd => rfl); (case hg => rfl); (case hr => first | (go_simp; done) | (go_simp; rfl)); intro gb397 hg w85 hbox hb; have n0_ := zB.mk (Kd.R_below (Kd.R_elderB (by (with_reducible repeat (first | apply Kd.R_alloc | apply Kd.R_drewN | apply Kd.R_drew)); exact HO_14.out) gb397 (Nat.le_of_eq hg.symm)) hb); have n1_ := zB.mk (zN (g := gb391) (o := .cells #[.int .i64 a0_0, .int .i64 a0_1, .slice A0_2 l0_2.length c0_2] 28 (0, 0)) (by (with_reducible repeat (first | refine zC ?_ _ | refine zG ?_ | refine zD ?_ _)); exact BK391.out) hb); have n2_ := zB.mk (zK (by repeat (first | (with_reducible first | exact HB.out | apply zF | apply zA | apply zE | refine zH ?_ GE391.out) | exact HB.out)) hb); have n3_ := zB.mk (hbox); have n4_ := zB.mk ((by rw [hg]; exact (zM (by repeat (first | (with_reducible first | exact HB.out | apply zF | apply zA | apply zE | refine zH ?_ GE391.out) | exact HB.out))) : w.heap.size ≤ gb397)); have n5_ := n4_; have n6_ := zB.mk ((by rw [hg]; exact Nat.ne_of_lt (zQ (by (with_reducible repeat (first | refine zC ?_ _ | refine zG ?_ | refine zD ?_ _)); exact BK391.out)) : gb391 ≠ gb397)); have n7_ := zB.mk n6_.out.symm; clear HO_14; clear BK391; clear HB; have HO_14 := n0_; have BK391 := n1_; have HB := n2_; have BK397 := n3_; have GW397 := n4_; have GE397 := n5_; have NB391_397 := n6_; have NB397_391 := n7_; clear n0_ n1_ n2_ n3_ n4_ n5_ n6_ n7_; clear hb hbox hg; have hnb86 := NB397_391.out; have hnc86 := NB391_397.out; have hcz87_0 : w85.cell? ⟨gb397, 0, none⟩ = some (.bool false) := zJ BK397.out 0; have hcz87_1 : w85.cell? ⟨gb397, 1, none⟩ = some (.bool false) := zJ BK397.out 1; have hcz87_2 : w85.cell? ⟨gb397, 2, none⟩ = some (.int .i64 0) := zJ BK397.out 2; have hfz87_0 := zI BK397.out 0; have hfz87_1 := zI BK397.out 1; have hfz87_2 := zI BK397.out 2))
             go_roundg k1
             case measure => have := HK1.out; omega
             case rel => exact ⟨(true), (false), (true), (false), (wrap64 (x16_1 + 1)), (by first | rfl | (simp; done) | (simp [*]; done)), (by first | rfl | (simp; done) | (simp [*]; done)), (by first | rfl | (simp; done) | (simp [*]; done)), (by first | rfl | (simp; done) | (simp [*]; done)), (by first | rfl | (simp; done) | (simp [*]; done)), H', ⟨by have := HK1.out; omega⟩, ⟨by (with_reducible repeat (first | apply Kd.R_alloc | apply Kd.R_drewN | apply Kd.R_drew)); exact Kd.R_mono (Kd.R_far (p := ⟨gb397, 2, none⟩) (Kd.R_far (p := ⟨gb397, 1, none⟩) (Kd.R_far (p := ⟨gb397, 0, none⟩) (Kd.R_mono HO_14.out (fun k_ hk => (⟨hk, hk.2⟩ : _ ∧ k_ ≠ gb397))) (fun _ hk => hk.2) (.bool false)) (fun _ hk => hk.2) (.bool false)) (fun _ hk => hk.2) (.int .i64 ((rd_T36 t393 x16_1).f2))) (fun _ hk => trivial)⟩, ⟨by (with_reducible repeat (first | refine zC ?_ _ | refine zG ?_ | refine zD ?_ _)); refine zL ?_ NB391_397.out _; (with_reducible repeat (first | refine zC ?_ _ | refine zG ?_ | refine zD ?_ _)); refine zL ?_ NB391_397.out _; (with_reducible repeat (first | refine zC ?_ _ | refine zG ?_ | refine zD ?_ _)); refine zL ?_ NB391_397.out _; (with_reducible repeat (first | refine zC ?_ _ | refine zG ?_ | refine zD ?_ _)); exact BK391.out⟩, ⟨by repeat (first | (with_reducible first | exact HB.out | apply zF | apply zA | apply zE | refine zH ?_ GE391.out | refine zH ?_ GE397.out) | exact HB.out)⟩⟩
           ·
            replace c80 := Bool.eq_false_iff.mpr c80
            subst c80
            have H1 : (if false = true then (if x7_1 = true then (zW.l0 k1 true false (!(false)) true t393 (t393.length : Int) (wrap64 (x16_1 + 1))) else (zW.l0 k1 true false (!(false)) false t393 (t393.length : Int) (wrap64 (x16_1 + 1)))) else (if x7_1 = true then (zW.l0 k1 true false false true t393 (t393.length : Int) (wrap64 (x16_1 + 1))) else (zW.l0 k1 true false false false t393 (t393.length : Int) (wrap64 (x16_1 + 1))))) = some (r1, r2) := by rw [if_neg (show ¬ (false = true) by decide)] at H; exact H
            clear H
            have H := H1
            clear H1
            have H1 : (if x7_1 = true then (zW.l0 k1 true false false true t393 (t393.length : Int) (wrap64 (x16_1 + 1))) else (zW.l0 k1 true false false false t393 (t393.length : Int) (wrap64 (x16_1 + 1)))) = some (r1, r2) := by rw [if_neg (show ¬ (false = true) by decide)] at H; exact H
            clear H
            have H := H1
            clear H1
            by_cases c88 : x7_1 = true
            ·
             subst c88
             have H1 : (zW.l0 k1 true false false true t393 (t393.length : Int) (wrap64 (x16_1 + 1))) = some (r1, r2) := by rw [if_pos rfl] at H; exact H
             clear H
             have H := H1
             clear H1
             have H' := zB.mk H
             clear H
             have p396 : 0 ≤ (x16_1 : Int) := of_decide_eq_true (by first | (with_reducible assumption) | assumption)
             have q396 : x16_1 < (t393.length : Int) := of_decide_eq_true (by first | (with_reducible assumption) | assumption)
             obtain ⟨ad396, e396, hx396_0, hx396_1, hx396_2⟩ := at_T36 (Kd.R_reads' HO_14.out).2.2 x16_1 p396 q396
             (try rw [← Nbq46.out] at hx396_0)
             (try rw [← Nbq63.out] at hx396_0)
             (try rw [← Nbq46.out] at hx396_1)
             (try rw [← Nbq63.out] at hx396_1)
             cases e396
             replace p396 := eq_true p396
             replace q396 := eq_true q396
             go_wp2_with (first | ((with_reducible refine zP (N := 9) rfl ?_); refine zO ?hg (N := 9) ?hd (cs := #[.bool false, .bool false, .int .i64 0]) (t := 36) ?hr ?_; (case hd => rfl); (case hg => rfl); (case hr => first | (go_simp; done) | (go_simp; rfl)); intro gb397 hg w89 hbox hb; have n0_ := zB.mk (Kd.R_below (Kd.R_elderB (by (with_reducible repeat (first | apply Kd.R_alloc | apply Kd.R_drewN | apply Kd.R_drew)); exact HO_14.out) gb397 (Nat.le_of_eq hg.symm)) hb); have n1_ := zB.mk (zN (g := gb391) (o := .cells #[.int .i64 a0_0, .int .i64 a0_1, .slice A0_2 l0_2.length c0_2] 28 (0, 0)) (by (with_reducible repeat (first | refine zC ?_ _ | refine zG ?_ | refine zD ?_ _)); exact BK391.out) hb); have n2_ := zB.mk (zK (by repeat (first | (with_reducible first | exact HB.out | apply zF | apply zA | apply zE | refine zH ?_ GE391.out) | exact HB.out)) hb); have n3_ := zB.mk (hbox); have n4_ := zB.mk ((by rw [hg]; exact (zM (by repeat (first | (with_reducible first | exact HB.out | apply zF | apply zA | apply zE | refine zH ?_ GE391.out) | exact HB.out))) : w.heap.size ≤ gb397)); have n5_ := n4_; have n6_ := zB.mk ((by rw [hg]; exact Nat.ne_of_lt (zQ (by (with_reducible repeat (first | refine zC ?_ _ | refine zG ?_ | refine zD ?_ _)); exact BK391.out)) : gb391 ≠ gb397)); have n7_ := zB.mk n6_.out.symm; clear HO_14; clear BK391; clear HB; have HO_14 := n0_; have BK391 := n1_; have HB := n2_; have BK397 := n3_; have GW397 := n4_; have GE397 := n5_; have NB391_397 := n6_; have NB397_391 := n7_; clear n0_ n1_ n2_ n3_ n4_ n5_ n6_ n7_; clear hb hbox hg; have hnb90 := NB397_391.out; have hnc90 := NB391_397.out; have hcz91_0 : w89.cell? ⟨gb397, 0, none⟩ = some (.bool false) := zJ BK397.out 0; have hcz91_1 : w89.cell? ⟨gb397, 1, none⟩ = some (.bool false) := zJ BK397.out 1; have hcz91_2 : w89.cell? ⟨gb397, 2, none⟩ = some (.int .i64 0) := zJ BK397.out 2; have hfz91_0 := zI BK397.out 0; have hfz91_1 := zI BK397.out 1; have hfz91_2 := zI BK397.out 2))
             go_roundg k1
             case measure => have := HK1.out; omega
             case rel => exact ⟨(true), (false), (false), (true), (wrap64 (x16_1 + 1)), (by first | rfl | (simp; done) | (simp [*]; done)), (by first | rfl | (simp; done) | (simp [*]; done)), (by first | rfl | (simp; done) | (simp [*]; done)), (by first | rfl | (simp; done) | (simp [*]; done)), (by first | rfl | (simp; done) | (simp [*]; done)), H', ⟨by have := HK1.out; omega⟩, ⟨by (with_reducible repeat (first | apply Kd.R_alloc | apply Kd.R_drewN | apply Kd.R_drew)); exact Kd.R_mono (Kd.R_far (p := ⟨gb397, 2, none⟩) (Kd.R_far (p := ⟨gb397, 1, none⟩) (Kd.R_far (p := ⟨gb397, 0, none⟩) (Kd.R_mono HO_14.out (fun k_ hk => (⟨hk, hk.2⟩ : _ ∧ k_ ≠ gb397))) (fun _ hk => hk.2) (.bool false)) (fun _ hk => hk.2) (.bool false)) (fun _ hk => hk.2) (.int .i64 ((rd_T36 t393 x16_1).f2))) (fun _ hk => trivial)⟩, ⟨by (with_reducible repeat (first | refine zC ?_ _ | refine zG ?_ | refine zD ?_ _)); refine zL ?_ NB391_397.out _; (with_reducible repeat (first | refine zC ?_ _ | refine zG ?_ | refine zD ?_ _)); refine zL ?_ NB391_397.out _; (with_reducible repeat (first | refine zC ?_ _ | refine zG ?_ | refine zD ?_ _)); refine zL ?_ NB391_397.out _; (with_reducible repeat (first | refine zC ?_ _ | refine zG ?_ | refine zD ?_ _)); exact BK391.out⟩, ⟨by repeat (first | (with_reducible first | exact HB.out | apply zF | apply zA | apply zE | refine zH ?_ GE391.out | refine zH ?_ GE397.out) | exact HB.out)⟩⟩
            ·
             replace c88 := Bool.eq_false_iff.mpr c88
             subst c88
             have H1 : (zW.l0 k1 true false false false t393 (t393.length : Int) (wrap64 (x16_1 + 1))) = some (r1, r2) := by rw [if_neg (show ¬ (false = true) by decide)] at H; exact H
             clear H
             have H := H1
             clear H1
             have H' := zB.mk H
             clear H
             have p396 : 0 ≤ (x16_1 : Int) := of_decide_eq_true (by first | (with_reducible assumption) | assumption)
             have q396 : x16_1 < (t393.length : Int) := of_decide_eq_true (by first | (with_reducible assumption) | assumption)
             obtain ⟨ad396, e396, hx396_0, hx396_1, hx396_2⟩ := at_T36 (Kd.R_reads' HO_14.out).2.2 x16_1 p396 q396
             (try rw [← Nbq46.out] at hx396_0)
             (try rw [← Nbq63.out] at hx396_0)
             (try rw [← Nbq46.out] at hx396_1)
             (try rw [← Nbq63.out] at hx396_1)
             cases e396
             replace p396 := eq_true p396
             replace q396 := eq_true q396
             go_wp2_with (first | ((with_reducible refine zP (N := 9) rfl ?_); refine zO ?hg (N := 9) ?hd (cs := #[.bool false, .bool false, .int .i64 0]) (t := 36) ?hr ?_; (case hd => rfl); (case hg => rfl); (case hr => first | (go_simp; done) | (go_simp; rfl)); intro gb397 hg w92 hbox hb; have n0_ := zB.mk (Kd.R_below (Kd.R_elderB (by (with_reducible repeat (first | apply Kd.R_alloc | apply Kd.R_drewN | apply Kd.R_drew)); exact HO_14.out) gb397 (Nat.le_of_eq hg.symm)) hb); have n1_ := zB.mk (zN (g := gb391) (o := .cells #[.int .i64 a0_0, .int .i64 a0_1, .slice A0_2 l0_2.length c0_2] 28 (0, 0)) (by (with_reducible repeat (first | refine zC ?_ _ | refine zG ?_ | refine zD ?_ _)); exact BK391.out) hb); have n2_ := zB.mk (zK (by repeat (first | (with_reducible first | exact HB.out | apply zF | apply zA | apply zE | refine zH ?_ GE391.out) | exact HB.out)) hb); have n3_ := zB.mk (hbox); have n4_ := zB.mk ((by rw [hg]; exact (zM (by repeat (first | (with_reducible first | exact HB.out | apply zF | apply zA | apply zE | refine zH ?_ GE391.out) | exact HB.out))) : w.heap.size ≤ gb397)); have n5_ := n4_; have n6_ := zB.mk ((by rw [hg]; exact Nat.ne_of_lt (zQ (by (with_reducible repeat (first | refine zC ?_ _ | refine zG ?_ | refine zD ?_ _)); exact BK391.out)) : gb391 ≠ gb397)); have n7_ := zB.mk n6_.out.symm; clear HO_14; clear BK391; clear HB; have HO_14 := n0_; have BK391 := n1_; have HB := n2_; have BK397 := n3_; have GW397 := n4_; have GE397 := n5_; have NB391_397 := n6_; have NB397_391 := n7_; clear n0_ n1_ n2_ n3_ n4_ n5_ n6_ n7_; clear hb hbox hg; have hnb93 := NB397_391.out; have hnc93 := NB391_397.out; have hcz94_0 : w92.cell? ⟨gb397, 0, none⟩ = some (.bool false) := zJ BK397.out 0; have hcz94_1 : w92.cell? ⟨gb397, 1, none⟩ = some (.bool false) := zJ BK397.out 1; have hcz94_2 : w92.cell? ⟨gb397, 2, none⟩ = some (.int .i64 0) := zJ BK397.out 2; have hfz94_0 := zI BK397.out 0; have hfz94_1 := zI BK397.out 1; have hfz94_2 := zI BK397.out 2))
             go_roundg k1
             case measure => have := HK1.out; omega
             case rel => exact ⟨(true), (false), (false), (false), (wrap64 (x16_1 + 1)), (by first | rfl | (simp; done) | (simp [*]; done)), (by first | rfl | (simp; done) | (simp [*]; done)), (by first | rfl | (simp; done) | (simp [*]; done)), (by first | rfl | (simp; done) | (simp [*]; done)), (by first | rfl | (simp; done) | (simp [*]; done)), H', ⟨by have := HK1.out; omega⟩, ⟨by (with_reducible repeat (first | apply Kd.R_alloc | apply Kd.R_drewN | apply Kd.R_drew)); exact Kd.R_mono (Kd.R_far (p := ⟨gb397, 2, none⟩) (Kd.R_far (p := ⟨gb397, 1, none⟩) (Kd.R_far (p := ⟨gb397, 0, none⟩) (Kd.R_mono HO_14.out (fun k_ hk => (⟨hk, hk.2⟩ : _ ∧ k_ ≠ gb397))) (fun _ hk => hk.2) (.bool false)) (fun _ hk => hk.2) (.bool false)) (fun _ hk => hk.2) (.int .i64 ((rd_T36 t393 x16_1).f2))) (fun _ hk => trivial)⟩, ⟨by (with_reducible repeat (first | refine zC ?_ _ | refine zG ?_ | refine zD ?_ _)); refine zL ?_ NB391_397.out _; (with_reducible repeat (first | refine zC ?_ _ | refine zG ?_ | refine zD ?_ _)); refine zL ?_ NB391_397.out _; (with_reducible repeat (first | refine zC ?_ _ | refine zG ?_ | refine zD ?_ _)); refine zL ?_ NB391_397.out _; (with_reducible repeat (first | refine zC ?_ _ | refine zG ?_ | refine zD ?_ _)); exact BK391.out⟩, ⟨by repeat (first | (with_reducible first | exact HB.out | apply zF | apply zA | apply zE | refine zH ?_ GE391.out | refine zH ?_ GE397.out) | exact HB.out)⟩⟩
       ·
        replace c15 := Bool.eq_false_iff.mpr c15
        subst c15
        have H1 : (if ((rd_T36 t393 x16_1).f0 = true) then (if x5_1 = true then (if x6_1 = true then (if x7_1 = true then (zW.l0 k1 false true true true t393 (t393.length : Int) (wrap64 (x16_1 + 1))) else (if (rd_T36 t393 x16_1).f0 = true then (zW.l0 k1 false true true ((rd_T36 t393 x16_1).f1) t393 (t393.length : Int) (wrap64 (x16_1 + 1))) else (zW.l0 k1 false true true false t393 (t393.length : Int) (wrap64 (x16_1 + 1))))) else (if (rd_T36 t393 x16_1).f0 = true then (if x7_1 = true then (zW.l0 k1 false true (!((rd_T36 t393 x16_1).f1)) true t393 (t393.length : Int) (wrap64 (x16_1 + 1))) else (zW.l0 k1 false true (!((rd_T36 t393 x16_1).f1)) ((rd_T36 t393 x16_1).f1) t393 (t393.length : Int) (wrap64 (x16_1 + 1)))) else (if x7_1 = true then (zW.l0 k1 false true false true t393 (t393.length : Int) (wrap64 (x16_1 + 1))) else (zW.l0 k1 false true false false t393 (t393.length : Int) (wrap64 (x16_1 + 1)))))) else (if x6_1 = true then (if x7_1 = true then (zW.l0 k1 false false true true t393 (t393.length : Int) (wrap64 (x16_1 + 1))) else (if (rd_T36 t393 x16_1).f0 = true then (zW.l0 k1 false false true ((rd_T36 t393 x16_1).f1) t393 (t393.length : Int) (wrap64 (x16_1 + 1))) else (zW.l0 k1 false false true false t393 (t393.length : Int) (wrap64 (x16_1 + 1))))) else (if (rd_T36 t393 x16_1).f0 = true then (if x7_1 = true then (zW.l0 k1 false false (!((rd_T36 t393 x16_1).f1)) true t393 (t393.length : Int) (wrap64 (x16_1 + 1))) else (zW.l0 k1 false false (!((rd_T36 t393 x16_1).f1)) ((rd_T36 t393 x16_1).f1) t393 (t393.length : Int) (wrap64 (x16_1 + 1)))) else (if x7_1 = true then (zW.l0 k1 false false false true t393 (t393.length : Int) (wrap64 (x16_1 + 1))) else (zW.l0 k1 false false false false t393 (t393.length : Int) (wrap64 (x16_1 + 1))))))) else (if (rd_T36 t393 x16_1).f1 = true then (if x5_1 = true then (if x6_1 = true then (if x7_1 = true then (zW.l0 k1 (((rd_T36 t393 x16_1).f2) == 0) true true true t393 (t393.length : Int) (wrap64 (x16_1 + 1))) else (if (rd_T36 t393 x16_1).f0 = true then (zW.l0 k1 (((rd_T36 t393 x16_1).f2) == 0) true true ((rd_T36 t393 x16_1).f1) t393 (t393.length : Int) (wrap64 (x16_1 + 1))) else (zW.l0 k1 (((rd_T36 t393 x16_1).f2) == 0) true true false t393 (t393.length : Int) (wrap64 (x16_1 + 1))))) else (if (rd_T36 t393 x16_1).f0 = true then (if x7_1 = true then (zW.l0 k1 (((rd_T36 t393 x16_1).f2) == 0) true (!((rd_T36 t393 x16_1).f1)) true t393 (t393.length : Int) (wrap64 (x16_1 + 1))) else (zW.l0 k1 (((rd_T36 t393 x16_1).f2) == 0) true (!((rd_T36 t393 x16_1).f1)) ((rd_T36 t393 x16_1).f1) t393 (t393.length : Int) (wrap64 (x16_1 + 1)))) else (if x7_1 = true then (zW.l0 k1 (((rd_T36 t393 x16_1).f2) == 0) true false true t393 (t393.length : Int) (wrap64 (x16_1 + 1))) else (zW.l0 k1 (((rd_T36 t393 x16_1).f2) == 0) true false false t393 (t393.length : Int) (wrap64 (x16_1 + 1)))))) else (if x6_1 = true then (if x7_1 = true then (zW.l0 k1 (((rd_T36 t393 x16_1).f2) == 0) (((rd_T36 t393 x16_1).f2) != 0) true true t393 (t393.length : Int) (wrap64 (x16_1 + 1))) else (if (rd_T36 t393 x16_1).f0 = true then (zW.l0 k1 (((rd_T36 t393 x16_1).f2) == 0) (((rd_T36 t393 x16_1).f2) != 0) true ((rd_T36 t393 x16_1).f1) t393 (t393.length : Int) (wrap64 (x16_1 + 1))) else (zW.l0 k1 (((rd_T36 t393 x16_1).f2) == 0) (((rd_T36 t393 x16_1).f2) != 0) true false t393 (t393.length : Int) (wrap64 (x16_1 + 1))))) else (if (rd_T36 t393 x16_1).f0 = true then (if x7_1 = true then (zW.l0 k1 (((rd_T36 t393 x16_1).f2) == 0) (((rd_T36 t393 x16_1).f2) != 0) (!((rd_T36 t393 x16_1).f1)) true t393 (t393.length : Int) (wrap64 (x16_1 + 1))) else (zW.l0 k1 (((rd_T36 t393 x16_1).f2) == 0) (((rd_T36 t393 x16_1).f2) != 0) (!((rd_T36 t393 x16_1).f1)) ((rd_T36 t393 x16_1).f1) t393 (t393.length : Int) (wrap64 (x16_1 + 1)))) else (if x7_1 = true then (zW.l0 k1 (((rd_T36 t393 x16_1).f2) == 0) (((rd_T36 t393 x16_1).f2) != 0) false true t393 (t393.length : Int) (wrap64 (x16_1 + 1))) else (zW.l0 k1 (((rd_T36 t393 x16_1).f2) == 0) (((rd_T36 t393 x16_1).f2) != 0) false false t393 (t393.length : Int) (wrap64 (x16_1 + 1))))))) else (if x5_1 = true then (if x6_1 = true then (if x7_1 = true then (zW.l0 k1 false true true true t393 (t393.length : Int) (wrap64 (x16_1 + 1))) else (if (rd_T36 t393 x16_1).f0 = true then (zW.l0 k1 false true true ((rd_T36 t393 x16_1).f1) t393 (t393.length : Int) (wrap64 (x16_1 + 1))) else (zW.l0 k1 false true true false t393 (t393.length : Int) (wrap64 (x16_1 + 1))))) else (if (rd_T36 t393 x16_1).f0 = true then (if x7_1 = true then (zW.l0 k1 false true (!((rd_T36 t393 x16_1).f1)) true t393 (t393.length : Int) (wrap64 (x16_1 + 1))) else (zW.l0 k1 false true (!((rd_T36 t393 x16_1).f1)) ((rd_T36 t393 x16_1).f1) t393 (t393.length : Int) (wrap64 (x16_1 + 1)))) else (if x7_1 = true then (zW.l0 k1 false true false true t393 (t393.length : Int) (wrap64 (x16_1 + 1))) else (zW.l0 k1 false true false false t393 (t393.length : Int) (wrap64 (x16_1 + 1)))))) else (if x6_1 = true then (if x7_1 = true then (zW.l0 k1 false false true true t393 (t393.length : Int) (wrap64 (x16_1 + 1))) else (if (rd_T36 t393 x16_1).f0 = true then (zW.l0 k1 false false true ((rd_T36 t393 x16_1).f1) t393 (t393.length : Int) (wrap64 (x16_1 + 1))) else (zW.l0 k1 false false true false t393 (t393.length : Int) (wrap64 (x16_1 + 1))))) else (if (rd_T36 t393 x16_1).f0 = true then (if x7_1 = true then (zW.l0 k1 false false (!((rd_T36 t393 x16_1).f1)) true t393 (t393.length : Int) (wrap64 (x16_1 + 1))) else (zW.l0 k1 false false (!((rd_T36 t393 x16_1).f1)) ((rd_T36 t393 x16_1).f1) t393 (t393.length : Int) (wrap64 (x16_1 + 1)))) else (if x7_1 = true then (zW.l0 k1 false false false true t393 (t393.length : Int) (wrap64 (x16_1 + 1))) else (zW.l0 k1 false false false false t393 (t393.length : Int) (wrap64 (x16_1 + 1))))))))) = some (r1, r2) := by rw [if_neg (show ¬ (false = true) by decide)] at H; exact H
        clear H
        have H := H1
        clear H1
        obtain ⟨bq95, hbq95⟩ : ∃ b_ : Bool, b_ = ((rd_T36 t393 x16_1).f0) := ⟨_, rfl⟩
        replace H : (if (bq95 = true) then (if x5_1 = true then (if x6_1 = true then (if x7_1 = true then (zW.l0 k1 false true true true t393 (t393.length : Int) (wrap64 (x16_1 + 1))) else (if bq95 = true then (zW.l0 k1 false true true ((rd_T36 t393 x16_1).f1) t393 (t393.length : Int) (wrap64 (x16_1 + 1))) else (zW.l0 k1 false true true false t393 (t393.length : Int) (wrap64 (x16_1 + 1))))) else (if bq95 = true then (if x7_1 = true then (zW.l0 k1 false true (!((rd_T36 t393 x16_1).f1)) true t393 (t393.length : Int) (wrap64 (x16_1 + 1))) else (zW.l0 k1 false true (!((rd_T36 t393 x16_1).f1)) ((rd_T36 t393 x16_1).f1) t393 (t393.length : Int) (wrap64 (x16_1 + 1)))) else (if x7_1 = true then (zW.l0 k1 false true false true t393 (t393.length : Int) (wrap64 (x16_1 + 1))) else (zW.l0 k1 false true false false t393 (t393.length : Int) (wrap64 (x16_1 + 1)))))) else (if x6_1 = true then (if x7_1 = true then (zW.l0 k1 false false true true t393 (t393.length : Int) (wrap64 (x16_1 + 1))) else (if bq95 = true then (zW.l0 k1 false false true ((rd_T36 t393 x16_1).f1) t393 (t393.length : Int) (wrap64 (x16_1 + 1))) else (zW.l0 k1 false false true false t393 (t393.length : Int) (wrap64 (x16_1 + 1))))) else (if bq95 = true then (if x7_1 = true then (zW.l0 k1 false false (!((rd_T36 t393 x16_1).f1)) true t393 (t393.length : Int) (wrap64 (x16_1 + 1))) else (zW.l0 k1 false false (!((rd_T36 t393 x16_1).f1)) ((rd_T36 t393 x16_1).f1) t393 (t393.length : Int) (wrap64 (x16_1 + 1)))) else (if x7_1 = true then (zW.l0 k1 false false false true t393 (t393.length : Int) (wrap64 (x16_1 + 1))) else (zW.l0 k1 false false false false t393 (t393.length : Int) (wrap64 (x16_1 + 1))))))) else (if (rd_T36 t393 x16_1).f1 = true then (if x5_1 = true then (if x6_1 = true then (if x7_1 = true then (zW.l0 k1 (((rd_T36 t393 x16_1).f2) == 0) true true true t393 (t393.length : Int) (wrap64 (x16_1 + 1))) else (if bq95 = true then (zW.l0 k1 (((rd_T36 t393 x16_1).f2) == 0) true true ((rd_T36 t393 x16_1).f1) t393 (t393.length : Int) (wrap64 (x16_1 + 1))) else (zW.l0 k1 (((rd_T36 t393 x16_1).f2) == 0) true true false t393 (t393.length : Int) (wrap64 (x16_1 + 1))))) else (if bq95 = true then (if x7_1 = true then (zW.l0 k1 (((rd_T36 t393 x16_1).f2) == 0) true (!((rd_T36 t393 x16_1).f1)) true t393 (t393.length : Int) (wrap64 (x16_1 + 1))) else (zW.l0 k1 (((rd_T36 t393 x16_1).f2) == 0) true (!((rd_T36 t393 x16_1).f1)) ((rd_T36 t393 x16_1).f1) t393 (t393.length : Int) (wrap64 (x16_1 + 1)))) else (if x7_1 = true then (zW.l0 k1 (((rd_T36 t393 x16_1).f2) == 0) true false true t393 (t393.length : Int) (wrap64 (x16_1 + 1))) else (zW.l0 k1 (((rd_T36 t393 x16_1).f2) == 0) true false false t393 (t393.length : Int) (wrap64 (x16_1 + 1)))))) else (if x6_1 = true then (if x7_1 = true then (zW.l0 k1 (((rd_T36 t393 x16_1).f2) == 0) (((rd_T36 t393 x16_1).f2) != 0) true true t393 (t393.length : Int) (wrap64 (x16_1 + 1))) else (if bq95 = true then (zW.l0 k1 (((rd_T36 t393 x16_1).f2) == 0) (((rd_T36 t393 x16_1).f2) != 0) true ((rd_T36 t393 x16_1).f1) t393 (t393.length : Int) (wrap64 (x16_1 + 1))) else (zW.l0 k1 (((rd_T36 t393 x16_1).f2) == 0) (((rd_T36 t393 x16_1).f2) != 0) true false t393 (t393.length : Int) (wrap64 (x16_1 + 1))))) else (if bq95 = true then (if x7_1 = true then (zW.l0 k1 (((rd_T36 t393 x16_1).f2) == 0) (((rd_T36 t393 x16_1).f2) != 0) (!((rd_T36 t393 x16_1).f1)) true t393 (t393.length : Int) (wrap64 (x16_1 + 1))) else (zW.l0 k1 (((rd_T36 t393 x16_1).f2) == 0) (((rd_T36 t393 x16_1).f2) != 0) (!((rd_T36 t393 x16_1).f1)) ((rd_T36 t393 x16_1).f1) t393 (t393.length : Int) (wrap64 (x16_1 + 1)))) else (if x7_1 = true then (zW.l0 k1 (((rd_T36 t393 x16_1).f2) == 0) (((rd_T36 t393 x16_1).f2) != 0) false true t393 (t393.length : Int) (wrap64 (x16_1 + 1))) else (zW.l0 k1 (((rd_T36 t393 x16_1).f2) == 0) (((rd_T36 t393 x16_1).f2) != 0) false false t393 (t393.length : Int) (wrap64 (x16_1 + 1))))))) else (if x5_1 = true then (if x6_1 = true then (if x7_1 = true then (zW.l0 k1 false true true true t393 (t393.length : Int) (wrap64 (x16_1 + 1))) else (if bq95 = true then (zW.l0 k1 false true true ((rd_T36 t393 x16_1).f1) t393 (t393.length : Int) (wrap64 (x16_1 + 1))) else (zW.l0 k1 false true true false t393 (t393.length : Int) (wrap64 (x16_1 + 1))))) else (if bq95 = true then (if x7_1 = true then (zW.l0 k1 false true (!((rd_T36 t393 x16_1).f1)) true t393 (t393.length : Int) (wrap64 (x16_1 + 1))) else (zW.l0 k1 false true (!((rd_T36 t393 x16_1).f1)) ((rd_T36 t393 x16_1).f1) t393 (t393.length : Int) (wrap64 (x16_1 + 1)))) else (if x7_1 = true then (zW.l0 k1 false true false true t393 (t393.length : Int) (wrap64 (x16_1 + 1))) else (zW.l0 k1 false true false false t393 (t393.length : Int) (wrap64 (x16_1 + 1)))))) else (if x6_1 = true then (if x7_1 = true then (zW.l0 k1 false false true true t393 (t393.length : Int) (wrap64 (x16_1 + 1))) else (if bq95 = true then (zW.l0 k1 false false true ((rd_T36 t393 x16_1).f1) t393 (t393.length : Int) (wrap64 (x16_1 + 1))) else (zW.l0 k1 false false true false t393 (t393.length : Int) (wrap64 (x16_1 + 1))))) else (if bq95 = true then (if x7_1 = true then (zW.l0 k1 false false (!((rd_T36 t393 x16_1).f1)) true t393 (t393.length : Int) (wrap64 (x16_1 + 1))) else (zW.l0 k1 false false (!((rd_T36 t393 x16_1).f1)) ((rd_T36 t393 x16_1).f1) t393 (t393.length : Int) (wrap64 (x16_1 + 1)))) else (if x7_1 = true then (zW.l0 k1 false false false true t393 (t393.length : Int) (wrap64 (x16_1 + 1))) else (zW.l0 k1 false false false false t393 (t393.length : Int) (wrap64 (x16_1 + 1))))))))) = some (r1, r2) := by rw [← hbq95] at H; exact H
        have Nbq95 := zB.mk hbq95
        clear hbq95
        by_cases c96 : (bq95 = true)
        ·
         subst c96
         have H1 : (if x5_1 = true then (if x6_1 = true then (if x7_1 = true then (zW.l0 k1 false true true true t393 (t393.length : Int) (wrap64 (x16_1 + 1))) else (if true = true then (zW.l0 k1 false true true ((rd_T36 t393 x16_1).f1) t393 (t393.length : Int) (wrap64 (x16_1 + 1))) else (zW.l0 k1 false true true false t393 (t393.length : Int) (wrap64 (x16_1 + 1))))) else (if true = true then (if x7_1 = true then (zW.l0 k1 false true (!((rd_T36 t393 x16_1).f1)) true t393 (t393.length : Int) (wrap64 (x16_1 + 1))) else (zW.l0 k1 false true (!((rd_T36 t393 x16_1).f1)) ((rd_T36 t393 x16_1).f1) t393 (t393.length : Int) (wrap64 (x16_1 + 1)))) else (if x7_1 = true then (zW.l0 k1 false true false true t393 (t393.length : Int) (wrap64 (x16_1 + 1))) else (zW.l0 k1 false true false false t393 (t393.length : Int) (wrap64 (x16_1 + 1)))))) else (if x6_1 = true then (if x7_1 = true then (zW.l0 k1 false false true true t393 (t393.length : Int) (wrap64 (x16_1 + 1))) else (if true = true then (zW.l0 k1 false false true ((rd_T36 t393 x16_1).f1) t393 (t393.length : Int) (wrap64 (x16_1 + 1))) else (zW.l0 k1 false false true false t393 (t393.length : Int) (wrap64 (x16_1 + 1))))) else (if true = true then (if x7_1 = true then (zW.l0 k1 false false (!((rd_T36 t393 x16_1).f1)) true t393 (t393.length : Int) (wrap64 (x16_1 + 1))) else (zW.l0 k1 false false (!((rd_T36 t393 x16_1).f1)) ((rd_T36 t393 x16_1).f1) t393 (t393.length : Int) (wrap64 (x16_1 + 1)))) else (if x7_1 = true then (zW.l0 k1 false false false true t393 (t393.length : Int) (wrap64 (x16_1 + 1))) else (zW.l0 k1 false false false false t393 (t393.length : Int) (wrap64 (x16_1 + 1))))))) = some (r1, r2) := by rw [if_pos rfl] at H; exact H
         clear H
         have H := H1
         clear H1
         by_cases c97 : x5_1 = true
         ·
          subst c97
          have H1 : (if x6_1 = true then (if x7_1 = true then (zW.l0 k1 false true true true t393 (t393.length : Int) (wrap64 (x16_1 + 1))) else (if true = true then (zW.l0 k1 false true true ((rd_T36 t393 x16_1).f1) t393 (t393.length : Int) (wrap64 (x16_1 + 1))) else (zW.l0 k1 false true true false t393 (t393.length : Int) (wrap64 (x16_1 + 1))))) else (if true = true then (if x7_1 = true then (zW.l0 k1 false true (!((rd_T36 t393 x16_1).f1)) true t393 (t393.length : Int) (wrap64 (x16_1 + 1))) else (zW.l0 k1 false true (!((rd_T36 t393 x16_1).f1)) ((rd_T36 t393 x16_1).f1) t393 (t393.length : Int) (wrap64 (x16_1 + 1)))) else (if x7_1 = true then (zW.l0 k1 false true false true t393 (t393.length : Int) (wrap64 (x16_1 + 1))) else (zW.l0 k1 false true false false t393 (t393.length : Int) (wrap64 (x16_1 + 1)))))) = some (r1, r2) := by rw [if_pos rfl] at H; exact H
          clear H
          have H := H1
          clear H1
          by_cases c98 : x6_1 = true
          ·
           subst c98
           have H1 : (if x7_1 = true then (zW.l0 k1 false true true true t393 (t393.length : Int) (wrap64 (x16_1 + 1))) else (if true = true then (zW.l0 k1 false true true ((rd_T36 t393 x16_1).f1) t393 (t393.length : Int) (wrap64 (x16_1 + 1))) else (zW.l0 k1 false true true false t393 (t393.length : Int) (wrap64 (x16_1 + 1))))) = some (r1, r2) := by rw [if_pos rfl] at H; exact H
           clear H
           have H := H1
           clear H1
           by_cases c99 : x7_1 = true
           ·
            subst c99
            have H1 : (zW.l0 k1 false true true true t393 (t393.length : Int) (wrap64 (x16_1 + 1))) = some (r1, r2) := by rw [if_pos rfl] at H; exact H
            clear H
            have H := H1
            clear H1
            have H' := zB.mk H
            clear H
            have p396 : 0 ≤ (x16_1 : Int) := of_decide_eq_true (by first | (with_reducible assumption) | assumption)
            have q396 : x16_1 < (t393.length : Int) := of_decide_eq_true (by first | (with_reducible assumption) | assumption)
            obtain ⟨ad396, e396, hx396_0, hx396_1, hx396_2⟩ := at_T36 (Kd.R_reads' HO_14.out).2.2 x16_1 p396 q396
            (try rw [← Nbq95.out] at hx396_0)
            (try rw [← Nbq95.out] at hx396_1)
            cases e396
            replace p396 := eq_true p396
            replace q396 := eq_true q396
            go_wp2_with (first | ((with_reducible refine zP (N := 9) rfl ?_); refine zO ?hg (N := 9) ?hd (cs := #[.bool false, .bool false, .int .i64 0]) (t := 36) ?hr ?_; (case hd => rfl); (case hg => rfl); (case hr => first | (go_simp; done) | (go_simp; rfl)); intro gb397 hg w100 hbox hb; have n0_ := zB.mk (Kd.R_below (Kd.R_elderB (by (with_reducible repeat (first | apply Kd.R_alloc | apply Kd.R_drewN | apply Kd.R_drew)); exact HO_14.out) gb397 (Nat.le_of_eq hg.symm)) hb); have n1_ := zB.mk (zN (g := gb391) (o := .cells #[.int .i64 a0_0, .int .i64 a0_1, .slice A0_2 l0_2.length c0_2] 28 (0, 0)) (by (with_reducible repeat (first | refine zC ?_ _ | refine zG ?_ | refine zD ?_ _)); exact BK391.out) hb); have n2_ := zB.mk (zK (by repeat (first | (with_reducible first | exact HB.out | apply zF | apply zA | apply zE | refine zH ?_ GE391.out) | exact HB.out)) hb); have n3_ := zB.mk (hbox); have n4_ := zB.mk ((by rw [hg]; exact (zM (by repeat (first | (with_reducible first | exact HB.out | apply zF | apply zA | apply zE | refine zH ?_ GE391.out) | exact HB.out))) : w.heap.size ≤ gb397)); have n5_ := n4_; have n6_ := zB.mk ((by rw [hg]; exact Nat.ne_of_lt (zQ (by (with_reducible repeat (first | refine zC ?_ _ | refine zG ?_ | refine zD ?_ _)); exact BK391.out)) : gb391 ≠ gb397)); have n7_ := zB.mk n6_.out.symm; clear HO_14; clear BK391; clear HB; have HO_14 := n0_; have BK391 := n1_; have HB := n2_; have BK397 := n3_; have GW397 := n4_; have GE397 := n5_; have NB391_397 := n6_; have NB397_391 := n7_; clear n0_ n1_ n2_ n3_ n4_ n5_ n6_ n7_; clear hb hbox hg; have hnb101 := NB397_391.out; have hnc101 := NB391_397.out; have hcz102_0 : w100.cell? ⟨gb397, 0, none⟩ = some (.bool false) := zJ BK397.out 0; have hcz102_1 : w100.cell? ⟨gb397, 1, none⟩ = some (.bool false) := zJ BK397.out 1; have hcz102_2 : w100.cell? ⟨gb397, 2, none⟩ = some (.int .i64 0) := zJ BK397.out 2; have hfz102_0 := zI BK397.out 0; have hfz102_1 := zI BK397.out 1; have hfz102_2 := zI BK397.out 2))
            go_roundg k1
            case measure => have := HK1.out; omega
            case rel => exact ⟨(false), (true), (true), (true), (wrap64 (x16_1 + 1)), (by first | rfl | (simp; done) | (simp [*]; done)), (by first | rfl | (simp; done) | (simp [*]; done)), (by first | rfl | (simp; done) | (simp [*]; done)), (by first | rfl | (simp; done) | (simp [*]; done)), (by first | rfl | (simp; done) | (simp [*]; done)), H', ⟨by have := HK1.out; omega⟩, ⟨by (with_reducible repeat (first | apply Kd.R_alloc | apply Kd.R_drewN | apply Kd.R_drew)); exact Kd.R_mono (Kd.R_far (p := ⟨gb397, 2, none⟩) (Kd.R_far (p := ⟨gb397, 1, none⟩) (Kd.R_far (p := ⟨gb397, 0, none⟩) (Kd.R_mono HO_14.out (fun k_ hk => (⟨hk, hk.2⟩ : _ ∧ k_ ≠ gb397))) (fun _ hk => hk.2) (.bool true)) (fun _ hk => hk.2) (.bool ((rd_T36 t393 x16_1).f1))) (fun _ hk => hk.2) (.int .i64 ((rd_T36 t393 x16_1).f2))) (fun _ hk => trivial)⟩, ⟨by (with_reducible repeat (first | refine zC ?_ _ | refine zG ?_ | refine zD ?_ _)); refine zL ?_ NB391_397.out _; (with_reducible repeat (first | refine zC ?_ _ | refine zG ?_ | refine zD ?_ _)); refine zL ?_ NB391_397.out _; (with_reducible repeat (first | refine zC ?_ _ | refine zG ?_ | refine zD ?_ _)); refine zL ?_ NB391_397.out _; (with_reducible repeat (first | refine zC ?_ _ | refine zG ?_ | refine zD ?_ _)); exact BK391.out⟩, ⟨by repeat (first | (with_reducible first | exact HB.out | apply zF | apply zA | apply zE | refine zH ?_ GE391.out | refine zH ?_ GE397.out) | exact HB.out)⟩⟩
           ·
            replace c99 := Bool.eq_false_iff.mpr c99
            subst c99
            have H1 : (if true = true then (zW.l0 k1 false true true ((rd_T36 t393 x16_1).f1) t393 (t393.length : Int) (wrap64 (x16_1 + 1))) else (zW.l0 k1 false true true false t393 (t393.length : Int) (wrap64 (x16_1 + 1)))) = some (r1, r2) := by rw [if_neg (show ¬ (false = true) by decide)] at H; exact H
            clear H
            have H := H1
            clear H1
            have H1 : (zW.l0 k1 false true true ((rd_T36 t393 x16_1).f1) t393 (t393.length : Int) (wrap64 (x16_1 + 1))) = some (r1, r2) := by rw [if_pos rfl] at H; exact H
            clear H
            have H := H1
            clear H1
            have H' := zB.mk H
            clear H
            have p396 : 0 ≤ (x16_1 : Int) := of_decide_eq_true (by first | (with_reducible assumption) | assumption)
            have q396 : x16_1 < (t393.length : Int) := of_decide_eq_true (by first | (with_reducible assumption) | assumption)
            obtain ⟨ad396, e396, hx396_0, hx396_1, hx396_2⟩ := at_T36 (Kd.R_reads' HO_14.out).2.2 x16_1 p396 q396
            (try rw [← Nbq95.out] at hx396_0)
            (try rw [← Nbq95.out] at hx396_1)
            cases e396
            replace p396 := eq_true p396
            replace q396 := eq_true q396
            go_wp2_with (first | ((with_reducible refine zP (N := 9) rfl ?_); refine zO ?hg (N := 9) ?hd (cs := #[.bool false, .bool false, .int .i64 0]) (t := 36) ?hr ?_; (case hd => rfl); (case hg => rfl); (case hr => first | (go_simp; done) | (go_simp; rfl)); intro gb397 hg w103 hbox hb; have n0_ := zB.mk (Kd.R_below (Kd.R_elderB (by (with_reducible repeat (first | apply Kd.R_alloc | apply Kd.R_drewN | apply Kd.R_drew)); exact HO_14.out) gb397 (Nat.le_of_eq hg.symm)) hb); have n1_ := zB.mk (zN (g := gb391) (o := .cells #[.int .i64 a0_0, .int .i64 a0_1, .slice A0_2 l0_2.length c0_2] 28 (0, 0)) (by (with_reducible repeat (first | refine zC ?_ _ | refine zG ?_ | refine zD ?_ _)); exact BK391.out) hb); have n2_ := zB.mk (zK (by repeat (first | (with_reducible first | exact HB.out | apply zF | apply zA | apply zE | refine zH ?_ GE391.out) | exact HB.out)) hb); have n3_ := zB.mk (hbox); have n4_ := zB.mk ((by rw [hg]; exact (zM (by repeat (first | (with_reducible first | exact HB.out | apply zF | apply zA | apply zE | refine zH ?_ GE391.out) | exact HB.out))) : w.heap.size ≤ gb397)); have n5_ := n4_; have n6_ := zB.mk ((by rw [hg]; exact Nat.ne_of_lt (zQ (by (with_reducible repeat (first | refine zC ?_ _ | refine zG ?_ | refine zD ?_ _)); exact BK391.out)) : gb391 ≠ gb397)); have n7_ := zB.mk n6_.out.symm; clear HO_14; clear BK391; clear HB; have HO_14 := n0_; have BK391 := n1_; have HB := n2_; have BK397 := n3_; have GW397 := n4_; have GE397 := n5_; have NB391_397 := n6_; have NB397_391 := n7_; clear n0_ n1_ n2_ n3_ n4_ n5_ n6_ n7_; clear hb hbox hg; have hnb104 := NB397_391.out; have hnc104 := NB391_397.out; have hcz105_0 : w103.cell? ⟨gb397, 0, none⟩ = some (.bool false) := zJ BK397.out 0; have hcz105_1 : w103.cell? ⟨gb397, 1, none⟩ = some (.bool false) := zJ BK397.out 1; have hcz105_2 : w103.cell? ⟨gb397, 2, none⟩ = some (.int .i64 0) := zJ BK397.out 2; have hfz105_0 := zI BK397.out 0; have hfz105_1 := zI BK397.out 1; have hfz105_2 := zI BK397.out 2))
            go_roundg k1
            case measure => have := HK1.out; omega
            case rel => exact ⟨(false), (true), (true), ((rd_T36 t393 x16_1).f1), (wrap64 (x16_1 + 1)), (by first | rfl | (simp; done) | (simp [*]; done)), (by first | rfl | (simp; done) | (simp [*]; done)), (by first | rfl | (simp; done) | (simp [*]; done)), (by first | rfl | (simp; done) | (simp [*]; done)), (by first | rfl | (simp; done) | (simp [*]; done)), H', ⟨by have := HK1.out; omega⟩, ⟨by (with_reducible repeat (first | apply Kd.R_alloc | apply Kd.R_drewN | apply Kd.R_drew)); exact Kd.R_mono (Kd.R_far (p := ⟨gb397, 2, none⟩) (Kd.R_far (p := ⟨gb397, 1, none⟩) (Kd.R_far (p := ⟨gb397, 0, none⟩) (Kd.R_mono HO_14.out (fun k_ hk => (⟨hk, hk.2⟩ : _ ∧ k_ ≠ gb397))) (fun _ hk => hk.2) (.bool true)) (fun _ hk => hk.2) (.bool ((rd_T36 t393 x16_1).f1))) (fun _ hk => hk.2) (.int .i64 ((rd_T36 t393 x16_1).f2))) (fun _ hk => trivial)⟩, ⟨by (with_reducible repeat (first | refine zC ?_ _ | refine zG ?_ | refine zD ?_ _)); refine zL ?_ NB391_397.out _; (with_reducible repeat (first | refine zC ?_ _ | refine zG ?_ | refine zD ?_ _)); refine zL ?_ NB391_397.out _; (with_reducible repeat (first | refine zC ?_ _ | refine zG ?_ | refine zD ?_ _)); refine zL ?_ NB391_397.out _; (with_reducible repeat (first | refine zC ?_ _ | refine zG ?_ | refine zD ?_ _)); exact BK391.out⟩, ⟨by repeat (first | (with_reducible first | exact HB.out | apply zF | apply zA | apply zE | refine zH ?_ GE391.out | refine zH ?_ GE397.out) | exact HB.out)⟩⟩
          ·
           replace c98 := Bool.eq_false_iff.mpr c98
           subst c98
           have H1 : (if true = true then (if x7_1 = true then (zW.l0 k1 false true (!((rd_T36 t393 x16_1).f1)) true t393 (t393.length : Int) (wrap64 (x16_1 + 1))) else (zW.l0 k1 false true (!((rd_T36 t393 x16_1).f1)) ((rd_T36 t393 x16_1).f1) t393 (t393.length : Int) (wrap64 (x16_1 + 1)))) else (if x7_1 = true then (zW.l0 k1 false true false true t393 (t393.length : Int) (wrap64 (x16_1 + 1))) else (zW.l0 k1 false true false false t393 (t393.length : Int) (wrap64 (x16_1 + 1))))) = some (r1, r2) := by rw [if_neg (show ¬ (false = true) by decide)] at H; exact H
           clear H
           have H := H1
           clear H1
           have H1 : (if x7_1 = true then (zW.l0 k1 false true (!((rd_T36 t393 x16_1).f1)) true t393 (t393.length : Int) (wrap64 (x16_1 + 1))) else (zW.l0 k1 false true (!((rd_T36 t393 x16_1).f1)) ((rd_T36 t393 x16_1).f1) t393 (t393.length : Int) (wrap64 (x16_1 + 1)))) = some (r1, r2) := by rw [if_pos rfl] at H; exact H
           clear H
           have H := H1
           clear H1
           by_cases c106 : x7_1 = true
           ·
            subst c106
            have H1 : (zW.l0 k1 false true (!((rd_T36 t393 x16_1).f1)) true t393 (t393.length : Int) (wrap64 (x16_1 + 1))) = some (r1, r2) := by rw [if_pos rfl] at H; exact H
            clear H
            have H := H1
            clear H1
            have H' := zB.mk H
            clear H
            have p396 : 0 ≤ (x16_1 : Int) := of_decide_eq_true (by first | (with_reducible assumption) | assumption)
            have q396 : x16_1 < (t393.length : Int) := of_decide_eq_true (by first | (with_reducible assumption) | assumption)
            obtain ⟨ad396, e396, hx396_0, hx396_1, hx396_2⟩ := at_T36 (Kd.R_reads' HO_14.out).2.2 x16_1 p396 q396
            (try rw [← Nbq95.out] at hx396_0)
            (try rw [← Nbq95.out] at hx396_1)
            cases e396
            replace p396 := eq_true p396
            replace q396 := eq_true q396
            go_wp2_with (first | ((with_reducible refine zP (N := 9) rfl ?_); refine zO ?hg (N := 9) ?hd (cs := #[.bool false, .bool false, .int .i64 0]) (t := 36) ?hr ?_; (case hd => rfl); (case hg => rfl); (case hr => first | (go_simp; done) | (go_simp; rfl)); intro gb397 hg w107 hbox hb; have n0_ := zB.mk (Kd.R_below (Kd.R_elderB (by (with_reducible repeat (first | apply Kd.R_alloc | apply Kd.R_drewN | apply Kd.R_drew)); exact HO_14.out) gb397 (Nat.le_of_eq hg.symm)) hb); have n1_ := zB.mk (zN (g := gb391) (o := .cells #[.int .i64 a0_0, .int .i64 a0_1, .slice A0_2 l0_2.length c0_2] 28 (0, 0)) (by (with_reducible repeat (first | refine zC ?_ _ | refine zG ?_ | refine zD ?_ _)); exact BK391.out) hb); have n2_ := zB.mk (zK (by repeat (first | (with_reducible first | exact HB.out | apply zF | apply zA | apply zE | refine zH ?_ GE391.out) | exact HB.out)) hb); have n3_ := zB.mk (hbox); have n4_ := zB.mk ((by rw [hg]; exact (zM (by repeat (first | (with_reducible first | exact HB.out | apply zF | apply zA | apply zE | refine zH ?_ GE391.out) | exact HB.out))) : w.heap.size ≤ gb397)); have n5_ := n4_; have n6_ := zB.mk ((by rw [hg]; exact Nat.ne_of_lt (zQ (by (with_reducible repeat (first | refine zC ?_ _ | refine zG ?_ | refine zD ?_ _)); exact BK391.out)) : gb391 ≠ gb397)); have n7_ := zB.mk n6_.out.symm; clear HO_14; clear BK391; clear HB; have HO_14 := n0_; have BK391 := n1_; have HB := n2_; have BK397 := n3_; have GW397 := n4_; have GE397 := n5_; have NB391_397 := n6_; have NB397_391 := n7_; clear n0_ n1_ n2_ n3_ n4_ n5_ n6_ n7_; clear hb hbox hg; have hnb108 := NB397_391.out; have hnc108 := NB391_397.out; have hcz109_0 : w107.cell? ⟨gb397, 0, none⟩ = some (.bool false) := zJ BK397.out 0; have hcz109_1 : w107.cell? ⟨gb397, 1, none⟩ = some (.bool false) := zJ BK397.out 1; have hcz109_2 : w107.cell? ⟨gb397, 2, none⟩ = some (.int .i64 0) := zJ BK397.out 2; have hfz109_0 := zI BK397.out 0; have hfz109_1 := zI BK397.out 1; have hfz109_2 := zI BK397.out 2))
            go_roundg k1
            case measure => have := HK1.out; omega
            case rel => exact ⟨(false), (true), (!((rd_T36 t393 x16_1).f1)), (true), (wrap64 (x16_1 + 1)), (by first | rfl | (simp; done) | (simp [*]; done)), (by first | rfl | (simp; done) | (simp [*]; done)), (by first | rfl | (simp; done) | (simp [*]; done)), (by first | rfl | (simp; done) | (simp [*]; done)), (by first | rfl | (simp; done) | (simp [*]; done)), H', ⟨by have := HK1.out; omega⟩, ⟨by (with_reducible repeat (first | apply Kd.R_alloc | apply Kd.R_drewN | apply Kd.R_drew)); exact Kd.R_mono (Kd.R_far (p := ⟨gb397, 2, none⟩) (Kd.R_far (p := ⟨gb397, 1, none⟩) (Kd.R_far (p := ⟨gb397, 0, none⟩) (Kd.R_mono HO_14.out (fun k_ hk => (⟨hk, hk.2⟩ : _ ∧ k_ ≠ gb397))) (fun _ hk => hk.2) (.bool true)) (fun _ hk => hk.2) (.bool ((rd_T36 t393 x16_1).f1))) (fun _ hk => hk.2) (.int .i64 ((rd_T36 t393 x16_1).f2))) (fun _ hk => trivial)⟩, ⟨by (with_reducible repeat (first | refine zC ?_ _ | refine zG ?_ | refine zD ?_ _)); refine zL ?_ NB391_397.out _; (with_reducible repeat (first | refine zC ?_ _ | refine zG ?_ | refine zD ?_ _)); refine zL ?_ NB391_397.out _; (with_reducible repeat (first | refine zC ?_ _ | refine zG ?_ | refine zD ?_ _)); refine zL ?_ NB391_397.out _; (with_reducible repeat (first | refine zC ?_ _ | refine zG ?_ | refine zD ?_ _)); exact BK391.out⟩, ⟨by repeat (first | (with_reducible first | exact HB.out | apply zF | apply zA | apply zE | refine zH ?_ GE391.out | refine zH ?_ GE397.out) | exact HB.out)⟩⟩
           ·
            replace c106 := Bool.eq_false_iff.mpr c106
            subst c106
            have H1 : (zW.l0 k1 false true (!((rd_T36 t393 x16_1).f1)) ((rd_T36 t393 x16_1).f1) t393 (t393.length : Int) (wrap64 (x16_1 + 1))) = some (r1, r2) := by rw [if_neg (show ¬ (false = true) by decide)] at H; exact H
            clear H
            have H := H1
            clear H1
            have H' := zB.mk H
            clear H
            have p396 : 0 ≤ (x16_1 : Int) := of_decide_eq_true (by first | (with_reducible assumption) | assumption)
            have q396 : x16_1 < (t393.length : Int) := of_decide_eq_true (by first | (with_reducible assumption) | assumption)
            obtain ⟨ad396, e396, hx396_0, hx396_1, hx396_2⟩ := at_T36 (Kd.R_reads' HO_14.out).2.2 x16_1 p396 q396
            (try rw [← Nbq95.out] at hx396_0)
            (try rw [← Nbq95.out] at hx396_1)
            cases e396
            replace p396 := eq_true p396
            replace q396 := eq_true q396
            go_wp2_with (first | ((with_reducible refine zP (N := 9) rfl ?_); refine zO ?hg (N := 9) ?hd (cs := #[.bool false, .bool false, .int .i64 0]) (t := 36) ?hr ?_; (case hd => rfl); (case hg => rfl); (case hr => first | (go_simp; done) | (go_simp; rfl)); intro gb397 hg w110 hbox hb; have n0_ := zB.mk (Kd.R_below (Kd.R_elderB (by (with_reducible repeat (first | apply Kd.R_alloc | apply Kd.R_drewN | apply Kd.R_drew)); exact HO_14.out) gb397 (Nat.le_of_eq hg.symm)) hb); have n1_ := zB.mk (zN (g := gb391) (o := .cells #[.int .i64 a0_0, .int .i64 a0_1, .slice A0_2 l0_2.length c0_2] 28 (0, 0)) (by (with_reducible repeat (first | refine zC ?_ _ | refine zG ?_ | refine zD ?_ _)); exact BK391.out) hb); have n2_ := zB.mk (zK (by repeat (first | (with_reducible first | exact HB.out | apply zF | apply zA | apply zE | refine zH ?_ GE391.out) | exact HB.out)) hb); have n3_ := zB.mk (hbox); have n4_ := zB.mk ((by rw [hg]; exact (zM (by repeat (first | (with_reducible first | exact HB.out | apply zF | apply zA | apply zE | refine zH ?_ GE391.out) | exact HB.out))) : w.heap.size ≤ gb397)); have n5_ := n4_; have n6_ := zB.mk ((by rw [hg]; exact Nat.ne_of_lt (zQ (by (with_reducible repeat (first | refine zC ?_ _ | refine zG ?_ | refine zD ?_ _)); exact BK391.out)) : gb391 ≠ gb397)); have n7_ := zB.mk n6_.out.symm; clear HO_14; clear BK391; clear HB; have HO_14 := n0_; have BK391 := n1_; have HB := n2_; have BK397 := n3_; have GW397 := n4_; have GE397 := n5_; have NB391_397 := n6_; have NB397_391 := n7_; clear n0_ n1_ n2_ n3_ n4_ n5_ n6_ n7_; clear hb hbox hg; have hnb111 := NB397_391.out; have hnc111 := NB391_397.out; have hcz112_0 : w110.cell? ⟨gb397, 0, none⟩ = some (.bool false) := zJ BK397.out 0; have hcz112_1 : w110.cell? ⟨gb397, 1, none⟩ = some (.bool false) := zJ BK397.out 1; have hcz112_2 : w110.cell? ⟨gb397, 2, none⟩ = some (.int .i64 0) := zJ BK397.out 2; have hfz112_0 := zI BK397.out 0; have hfz112_1 := zI BK397.out 1; have hfz112_2 := zI BK397.out 2))
            go_roundg k1
            case measure => have := HK1.out; omega
            case rel => exact ⟨(false), (true), (!((rd_T36 t393 x16_1).f1)), ((rd_T36 t393 x16_1).f1), (wrap64 (x16_1 + 1)), (by first | rfl | (simp; done) | (simp [*]; done)), (by first | rfl | (simp; done) | (simp [*]; done)), (by first | rfl | (simp; done) | (simp [*]; done)), (by first | rfl | (simp; done) | (simp [*]; done)), (by first | rfl | (simp; done) | (simp [*]; done)), H', ⟨by have := HK1.out; omega⟩, ⟨by (with_reducible repeat (first | apply Kd.R_alloc | apply Kd.R_drewN | apply Kd.R_drew)); exact Kd.R_mono (Kd.R_far (p := ⟨gb397, 2, none⟩) (Kd.R_far (p := ⟨gb397, 1, none⟩) (Kd.R_far (p := ⟨gb397, 0, none⟩) (Kd.R_mono HO_14.out (fun k_ hk => (⟨hk, hk.2⟩ : _ ∧ k_ ≠ gb397))) (fun _ hk => hk.2) (.bool true)) (fun _ hk => hk.2) (.bool ((rd_T36 t393 x16_1).f1))) (fun _ hk => hk.2) (.int .i64 ((rd_T36 t393 x16_1).f2))) (fun _ hk => trivial)⟩, ⟨by (with_reducible repeat (first | refine zC ?_ _ | refine zG ?_ | refine zD ?_ _)); refine zL ?_ NB391_397.out _; (with_reducible repeat (first | refine zC ?_ _ | refine zG ?_ | refine zD ?_ _)); refine zL ?_ NB391_397.out _; (with_reducible repeat (first | refine zC ?_ _ | refine zG ?_ | refine zD ?_ _)); refine zL ?_ NB391_397.out _; (with_reducible repeat (first | refine zC ?_ _ | refine zG ?_ | refine zD ?_ _)); exact BK391.out⟩, ⟨by repeat (first | (with_reducible first | exact HB.out | apply zF | apply zA | apply zE | refine zH ?_ GE391.out | refine zH ?_ GE397.out) | exact HB.out)⟩⟩
         ·
          replace c97 := Bool.eq_false_iff.mpr c97
          subst c97
          have H1 : (if x6_1 = true then (if x7_1 = true then (zW.l0 k1 false false true true t393 (t393.length : Int) (wrap64 (x16_1 + 1))) else (if true = true then (zW.l0 k1 false false true ((rd_T36 t393 x16_1).f1) t393 (t393.length : Int) (wrap64 (x16_1 + 1))) else (zW.l0 k1 false false true false t393 (t393.length : Int) (wrap64 (x16_1 + 1))))) else (if true = true then (if x7_1 = true then (zW.l0 k1 false false (!((rd_T36 t393 x16_1).f1)) true t393 (t393.length : Int) (wrap64 (x16_1 + 1))) else (zW.l0 k1 false false (!((rd_T36 t393 x16_1).f1)) ((rd_T36 t393 x16_1).f1) t393 (t393.length : Int) (wrap64 (x16_1 + 1)))) else (if x7_1 = true then (zW.l0 k1 false false false true t393 (t393.length : Int) (wrap64 (x16_1 + 1))) else (zW.l0 k1 false false false false t393 (t393.length : Int) (wrap64 (x16_1 + 1)))))) = some (r1, r2) := by rw [if_neg (show ¬ (false = true) by decide)] at H; exact H
          clear H
          have H := H1
          clear H1
          by_cases c113 : x6_1 = true
          ·
           subst c113
           have H1 : (if x7_1 = true then (zW.l0 k1 false false true true t393 (t393.length : Int) (wrap64 (x16_1 + 1))) else (if true = true then (zW.l0 k1 false false true ((rd_T36 t393 x16_1).f1) t393 (t393.length : Int) (wrap64 (x16_1 + 1))) else (zW.l0 k1 false false true false t393 (t393.length : Int) (wrap64 (x16_1 + 1))))) = some (r1, r2) := by rw [if_pos rfl] at H; exact H
           clear H
           have H := H1
           clear H1
           by_cases c114 : x7_1 = true
           ·
            subst c114
            have H1 : (zW.l0 k1 false false true true t393 (t393.length : Int) (wrap64 (x16_1 + 1))) = some (r1, r2) := by rw [if_pos rfl] at H; exact H
            clear H
            have H := H1
            clear H1
            have H' := zB.mk H
            clear H
            have p396 : 0 ≤ (x16_1 : Int) := of_decide_eq_true (by first | (with_reducible assumption) | assumption)
            have q396 : x16_1 < (t393.length : Int) := of_decide_eq_true (by first | (with_reducible assumption) | assumption)
            obtain ⟨ad396, e396, hx396_0, hx396_1, hx396_2⟩ := at_T36 (Kd.R_reads' HO_14.out).2.2 x16_1 p396 q396
            (try rw [← Nbq95.out] at hx396_0)
            (try rw [← Nbq95.out] at hx396_1)
            cases e396
            replace p396 := eq_true p396
            replace q396 := eq_true q396
            go_wp2_with (first | ((with_reducible refine zP (N := 9) rfl ?_); refine zO ?hg (N := 9) ?hd (cs := #[.bool false, .bool false, .int .i64 0]) (t := 36) ?hr ?_; (case hd => rfl); (case hg => rfl); (case hr => first | (go_simp; done) | (go_simp; rfl)); intro gb397 hg w115 hbox hb; have n0_ := zB.mk (Kd.R_below (Kd.R_elderB (by (with_reducible repeat (first | apply Kd.R_alloc | apply Kd.R_drewN | apply Kd.R_drew)); exact HO_14.out) gb397 (Nat.le_of_eq hg.symm)) hb); have n1_ := zB.mk (zN (g := gb391) (o := .cells #[.int .i64 a0_0, .int .i64 a0_1, .slice A0_2 l0_2.length c0_2] 28 (0, 0)) (by (with_reducible repeat (first | refine zC ?_ _ | refine zG ?_ | refine zD ?_ _)); exact BK391.out) hb); have n2_ := zB.mk (zK (by repeat (first | (with_reducible first | exact HB.out | apply zF | apply zA | apply zE | refine zH ?_ GE391.out) | exact HB.out)) hb); have n3_ := zB.mk (hbox); have n4_ := zB.mk ((by rw [hg]; exact (zM (by repeat (first | (with_reducible first | exact HB.out | apply zF | apply zA | apply zE | refine zH ?_ GE391.out) | exact HB.out))) : w.heap.size ≤ gb397)); have n5_ := n4_; have n6_ := zB.mk ((by rw [hg]; exact Nat.ne_of_lt (zQ (by (with_reducible repeat (first | refine zC ?_ _ | refine zG ?_ | refine zD ?_ _)); exact BK391.out)) : gb391 ≠ gb397)); have n7_ := zB.mk n6_.out.symm; clear HO_14; clear BK391; clear HB; have HO_14 := n0_; have BK391 := n1_; have HB := n2_; have BK397 := n3_; have GW397 := n4_; have GE397 := n5_; have NB391_397 := n6_; have NB397_391 := n7_; clear n0_ n1_ n2_ n3_ n4_ n5_ n6_ n7_; clear hb hbox hg; have hnb116 := NB397_391.out; have hnc116 := NB391_397.out; have hcz117_0 : w115.cell? ⟨gb397, 0, none⟩ = some (.bool false) := zJ BK397.out 0; have hcz117_1 : w115.cell? ⟨gb397, 1, none⟩ = some (.bool false) := zJ BK397.out 1; have hcz117_2 : w115.cell? ⟨gb397, 2, none⟩ = some (.int .i64 0) := zJ BK397.out 2; have hfz117_0 := zI BK397.out 0; have hfz117_1 := zI BK397.out 1; have hfz117_2 := zI BK397.out 2))
            go_roundg k1
            case measure => have := HK1.out; omega
            case rel => exact ⟨(false), (false), (true), (true), (wrap64 (x16_1 + 1)), (by first | rfl | (simp; done) | (simp [*]; done)), (by first | rfl | (simp; done) | (simp [*]; done)), (by first | rfl | (simp; done) | (simp [*]; done)), (by first | rfl | (simp; done) | (simp [*]; done)), (by first | rfl | (simp; done) | (simp [*]; done)), H', ⟨by have := HK1.out; omega⟩, ⟨by (with_reducible repeat (first | apply Kd.R_alloc | apply Kd.R_drewN | apply Kd.R_drew)); exact Kd.R_mono (Kd.R_far (p := ⟨gb397, 2, none⟩) (Kd.R_far (p := ⟨gb397, 1, none⟩) (Kd.R_far (p := ⟨gb397, 0, none⟩) (Kd.R_mono HO_14.out (fun k_ hk => (⟨hk, hk.2⟩ : _ ∧ k_ ≠ gb397))) (fun _ hk => hk.2) (.bool true)) (fun _ hk => hk.2) (.bool ((rd_T36 t393 x16_1).f1))) (fun _ hk => hk.2) (.int .i64 ((rd_T36 t393 x16_1).f2))) (fun _ hk => trivial)⟩, ⟨by (with_reducible repeat (first | refine zC ?_ _ | refine zG ?_ | refine zD ?_ _)); refine zL ?_ NB391_397.out _; (with_reducible repeat (first | refine zC ?_ _ | refine zG ?_ | refine zD ?_ _)); refine zL ?_ NB391_397.out _; (with_reducible repeat (first | refine zC ?_ _ | refine zG ?_ | refine zD ?_ _)); refine zL ?_ NB391_397.out _; (with_reducible repeat (first | refine zC ?_ _ | refine zG ?_ | refine zD ?_ _)); exact BK391.out⟩, ⟨by repeat (first | (with_reducible first | exact HB.out | apply zF | apply zA | apply zE | refine zH ?_ GE391.out | refine zH ?_ GE397.out) | exact HB.out)⟩⟩
           ·
            replace c114 := Bool.eq_false_iff.mpr c114
            subst c114
            have H1 : (if true = true then (zW.l0 k1 false false true ((rd_T36 t393 x16_1).f1) t393 (t393.length : Int) (wrap64 (x16_1 + 1))) else (zW.l0 k1 false false true false t393 (t393.length : Int) (wrap64 (x16_1 + 1)))) = some (r1, r2) := by rw [if_neg (show ¬ (false = true) by decide)] at H; exact H
            clear H
            have H := H1
            clear H1
            have H1 : (zW.l0 k1 false false true ((rd_T36 t393 x16_1).f1) t393 (t393.length : Int) (wrap64 (x16_1 + 1))) = some (r1, r2) := by rw [if_pos rfl] at H; exact H
            clear H
            have H := H1
            clear H1
            have H' := zB.mk H
            clear H
            have p396 : 0 ≤ (x16_1 : Int) := of_decide_eq_true (by first | (with_reducible assumption) | assumption)
            have q396 : x16_1 < (t393.length : Int) := of_decide_eq_true (by first | (with_reducible assumption) | assumption)
            obtain ⟨ad396, e396, hx396_0, hx396_1, hx396_2⟩ := at_T36 (Kd.R_reads' HO_14.out).2.2 x16_1 p396 q396
            (try rw [← Nbq95.out] at hx396_0)
            (try rw [← Nbq95.out] at hx396_1)
            cases e396
            replace p396 := eq_true p396
            replace q396 := eq_true q396
            go_wp2_with (first | ((with_reducible refine zP (N := 9) rfl ?_); refine zO ?hg (N := 9) ?hd (cs := #[.bool false, .bool false, .int .i64 0]) (t := 36) ?hr ?_; (case hd => rfl); (case hg => rfl); (case hr => first | (go_simp; done) | (go_simp; rfl)); intro gb397 hg w118 hbox hb; have n0_ := zB.mk (Kd.R_below (Kd.R_elderB (by (with_reducible repeat (first | apply Kd.R_alloc | apply Kd.R_drewN | apply Kd.R_drew)); exact HO_14.out) gb397 (Nat.le_of_eq hg.symm)) hb); have n1_ := zB.mk (zN (g := gb391) (o := .cells #[.int .i64 a0_0, .int .i64 a0_1, .slice A0_2 l0_2.length c0_2] 28 (0, 0)) (by (with_reducible repeat (first | refine zC ?_ _ | refine zG ?_ | refine zD ?_ _)); exact BK391.out) hb); have n2_ := zB.mk (zK (by repeat (first | (with_reducible first | exact HB.out | apply zF | apply zA | apply zE | refine zH ?_ GE391.out) | exact HB.out)) hb); have n3_ := zB.mk (hbox); have n4_ := zB.mk ((by rw [hg]; exact (zM (by repeat (first | (with_reducible first | exact HB.out | apply zF | apply zA | apply zE | refine zH ?_ GE391.out) | exact HB.out))) : w.heap.size ≤ gb397)); have n5_ := n4_; have n6_ := zB.mk ((by rw [hg]; exact Nat.ne_of_lt (zQ (by (with_reducible repeat (first | refine zC ?_ _ | refine zG ?_ | refine zD ?_ _)); exact BK391.out)) : gb391 ≠ gb397)); have n7_ := zB.mk n6_.out.symm; clear HO_14; clear BK391; clear HB; have HO_14 := n0_; have BK391 := n1_; have HB := n2_; have BK397 := n3_; have GW397 := n4_; have GE397 := n5_; have NB391_397 := n6_; have NB397_391 := n7_; clear n0_ n1_ n2_ n3_ n4_ n5_ n6_ n7_; clear hb hbox hg; have hnb119 := NB397_391.out; have hnc119 := NB391_397.out; have hcz120_0 : w118.cell? ⟨gb397, 0, none⟩ = some (.bool false) := zJ BK397.out 0; have hcz120_1 : w118.cell? ⟨gb397, 1, none⟩ = some (.bool false) := zJ BK397.out 1; have hcz120_2 : w118.cell? ⟨gb397, 2, none⟩ = some (.int .i64 0) := zJ BK397.out 2; have hfz120_0 := zI BK397.out 0; have hfz120_1 := zI BK397.out 1; have hfz120_2 := zI BK397.out 2))
            go_roundg k1
            case measure => have := HK1.out; omega
            case rel => exact ⟨(false), (false), (true), ((rd_T36 t393 x16_1).f1), (wrap64 (x16_1 + 1)), (by first | rfl | (simp; done) | (simp [*]; done)), (by first | rfl | (simp; done) | (simp [*]; done)), (by first | rfl | (simp; done) | (simp [*]; done)), (by first | rfl | (simp; done) | (simp [*]; done)), (by first | rfl | (simp; done) | (simp [*]; done)), H', ⟨by have := HK1.out; omega⟩, ⟨by (with_reducible repeat (first | apply Kd.R_alloc | apply Kd.R_drewN | apply Kd.R_drew)); exact Kd.R_mono (Kd.R_far (p := ⟨gb397, 2, none⟩) (Kd.R_far (p := ⟨gb397, 1, none⟩) (Kd.R_far (p := ⟨gb397, 0, none⟩) (Kd.R_mono HO_14.out (fun k_ hk => (⟨hk, hk.2⟩ : _ ∧ k_ ≠ gb397))) (fun _ hk => hk.2) (.bool true)) (fun _ hk => hk.2) (.bool ((rd_T36 t393 x16_1).f1))) (fun _ hk => hk.2) (.int .i64 ((rd_T36 t393 x16_1).f2))) (fun _ hk => trivial)⟩, ⟨by (with_reducible repeat (first | refine zC ?_ _ | refine zG ?_ | refine zD ?_ _)); refine zL ?_ NB391_397.out _; (with_reducible repeat (first | refine zC ?_ _ | refine zG ?_ | refine zD ?_ _)); refine zL ?_ NB391_397.out _; (with_reducible repeat (first | refine zC ?_ _ | refine zG ?_ | refine zD ?_ _)); refine zL ?_ NB391_397.out _; (with_reducible repeat (first | refine zC ?_ _ | refine zG ?_ | refine zD ?_ _)); exact BK391.out⟩, ⟨by repeat (first | (with_reducible first | exact HB.out | apply zF | apply zA | apply zE | refine zH ?_ GE391.out | refine zH ?_ GE397.out) | exact HB.out)⟩⟩
          ·
           replace c113 := Bool.eq_false_iff.mpr c113
           subst c113
           have H1 : (if true = true then (if x7_1 = true then (zW.l0 k1 false false (!((rd_T36 t393 x16_1).f1)) true t393 (t393.length : Int) (wrap64 (x16_1 + 1))) else (zW.l0 k1 false false (!((rd_T36 t393 x16_1).f1)) ((rd_T36 t393 x16_1).f1) t393 (t393.length : Int) (wrap64 (x16_1 + 1)))) else (if x7_1 = true then (zW.l0 k1 false false false true t393 (t393.length : Int) (wrap64 (x16_1 + 1))) else (zW.l0 k1 false false false false t393 (t393.length : Int) (wrap64 (x16_1 + 1))))) = some (r1, r2) := by rw [if_neg (show ¬ (false = true) by decide)] at H; exact H
           clear H
           have H := H1
           clear H1
           have H1 : (if x7_1 = true then (zW.l0 k1 false false (!((rd_T36 t393 x16_1).f1)) true t393 (t393.length : Int) (wrap64 (x16_1 + 1))) else (zW.l0 k1 false false (!((rd_T36 t393 x16_1).f1)) ((rd_T36 t393 x16_1).f1) t393 (t393.length : Int) (wrap64 (x16_1 + 1)))) = some (r1, r2) := by rw [if_pos rfl] at H; exact H
           clear H
           have H := H1
           clear H1
           by_cases c121 : x7_1 = true
           ·
            subst c121
            have H1 : (zW.l0 k1 false false (!((rd_T36 t393 x16_1).f1)) true t393 (t393.length : Int) (wrap64 (x16_1 + 1))) = some (r1, r2) := by rw [if_pos rfl] at H; exact H
            clear H
            have H := H1
            clear H1
            have H' := zB.mk H
            clear H
            have p396 : 0 ≤ (x16_1 : Int) := of_decide_eq_true (by first | (with_reducible assumption) | assumption)
            have q396 : x16_1 < (t393.length : Int) := of_decide_eq_true (by first | (with_reducible assumption) | assumption)
            obtain ⟨ad396, e396, hx396_0, hx396_1, hx396_2⟩ := at_T36 (Kd.R_reads' HO_14.out).2.2 x16_1 p396 q396
            (try rw [← Nbq95.out] at hx396_0)
            (try rw [← Nbq95.out] at hx396_1)
            cases e396
            replace p396 := eq_true p396
            replace q396 := eq_true q396
            go_wp2_with (first | ((with_reducible refine zP (N := 9) rfl ?_); refine zO ?hg (N := 9) ?hd (cs := #[.bool false, .bool false, .int .i64 0]) (t := 36) ?hr ?_; (case hd => rfl); (case hg => rfl); (case hr => first | (go_simp; done) | (go_simp; rfl)); intro gb397 hg w122 hbox hb; have n0_ := zB.mk (Kd.R_below (Kd.R_elderB (by (with_reducible repeat (first | apply Kd.R_alloc | apply Kd.R_drewN | apply Kd.R_drew)); exact HO_14.out) gb397 (Nat.le_of_eq hg.symm)) hb); have n1_ := zB.mk (zN (g := gb391) (o := .cells #[.int .i64 a0_0, .int .i64 a0_1, .slice A0_2 l0_2.length c0_2] 28 (0, 0)) (by (with_reducible repeat (first | refine zC ?_ _ | refine zG ?_ | refine zD ?_ _)); exact BK391.out) hb); have n2_ := zB.mk (zK (by repeat (first | (with_reducible first | exact HB.out | apply zF | apply zA | apply zE | refine zH ?_ GE391.out) | exact HB.out)) hb); have n3_ := zB.mk (hbox); have n4_ := zB.mk ((by rw [hg]; exact (zM (by repeat (first | (with_reducible first | exact HB.out | apply zF | apply zA | apply zE | refine zH ?_ GE391.out) | exact HB.out))) : w.heap.size ≤ gb397)); have n5_ := n4_; have n6_ := zB.mk ((by rw [hg]; exact Nat.ne_of_lt (zQ (by (with_reducible repeat (first | refine zC ?_ _ | refine zG ?_ | refine zD ?_ _)); exact BK391.out)) : gb391 ≠ gb397)); have n7_ := zB.mk n6_.out.symm; clear HO_14; clear BK391; clear HB; have HO_14 := n0_; have BK391 := n1_; have HB := n2_; have BK397 := n3_; have GW397 := n4_; have GE397 := n5_; have NB391_397 := n6_; have NB397_391 := n7_; clear n0_ n1_ n2_ n3_ n4_ n5_ n6_ n7_; clear hb hbox hg; have hnb123 := NB397_391.out; have hnc123 := NB391_397.out; have hcz124_0 : w122.cell? ⟨gb397, 0, none⟩ = some (.bool false) := zJ BK397.out 0; have hcz124_1 : w122.cell? ⟨gb397, 1, none⟩ = some (.bool false) := zJ BK397.out 1; have hcz124_2 : w122.cell? ⟨gb397, 2, none⟩ = some (.int .i64 0) := zJ BK397.out 2; have hfz124_0 := zI BK397.out 0; have hfz124_1 := zI BK397.out 1; have hfz124_2 := zI BK397.out 2))
            go_roundg k1
            case measure => have := HK1.out; omega
            case rel => exact ⟨(false), (false), (!((rd_T36 t393 x16_1).f1)), (true), (wrap64 (x16_1 + 1)), (by first | rfl | (simp; done) | (simp [*]; done)), (by first | rfl | (simp; done) | (simp [*]; done)), (by first | rfl | (simp; done) | (simp [*]; done)), (by first | rfl | (simp; done) | (simp [*]; done)), (by first | rfl | (simp; done) | (simp [*]; done)), H', ⟨by have := HK1.out; omega⟩, ⟨by (with_reducible repeat (first | apply Kd.R_alloc | apply Kd.R_drewN | apply Kd.R_drew)); exact Kd.R_mono (Kd.R_far (p := ⟨gb397, 2, none⟩) (Kd.R_far (p := ⟨gb397, 1, none⟩) (Kd.R_far (p := ⟨gb397, 0, none⟩) (Kd.R_mono HO_14.out (fun k_ hk => (⟨hk, hk.2⟩ : _ ∧ k_ ≠ gb397))) (fun _ hk => hk.2) (.bool true)) (fun _ hk => hk.2) (.bool ((rd_T36 t393 x16_1).f1))) (fun _ hk => hk.2) (.int .i64 ((rd_T36 t393 x16_1).f2))) (fun _ hk => trivial)⟩, ⟨by (with_reducible repeat (first | refine zC ?_ _ | refine zG ?_ | refine zD ?_ _)); refine zL ?_ NB391_397.out _; (with_reducible repeat (first | refine zC ?_ _ | refine zG ?_ | refine zD ?_ _)); refine zL ?_ NB391_397.out _; (with_reducible repeat (first | refine zC ?_ _ | refine zG ?_ | refine zD ?_ _)); refine zL ?_ NB391_397.out _; (with_reducible repeat (first | refine zC ?_ _ | refine zG ?_ | refine zD ?_ _)); exact BK391.out⟩, ⟨by repeat (first | (with_reducible first | exact HB.out | apply zF | apply zA | apply zE | refine zH ?_ GE391.out | refine zH ?_ GE397.out) | exact HB.out)⟩⟩
           ·
            replace c121 := Bool.eq_false_iff.mpr c121
            subst c121
            have H1 : (zW.l0 k1 false false (!((rd_T36 t393 x16_1).f1)) ((rd_T36 t393 x16_1).f1) t393 (t393.length : Int) (wrap64 (x16_1 + 1))) = some (r1, r2) := by rw [if_neg (show ¬ (false = true) by decide)] at H; exact H
            clear H
            have H := H1
            clear H1
            have H' := zB.mk H
            clear H
            have p396 : 0 ≤ (x16_1 : Int) := of_decide_eq_true (by first | (with_reducible assumption) | assumption)
            have q396 : x16_1 < (t393.length : Int) := of_decide_eq_true (by first | (with_reducible assumption) | assumption)
            obtain ⟨ad396, e396, hx396_0, hx396_1, hx396_2⟩ := at_T36 (Kd.R_reads' HO_14.out).2.2 x16_1 p396 q396
            (try rw [← Nbq95.out] at hx396_0)
            (try rw [← Nbq95.out] at hx396_1)
            cases e396
            replace p396 := eq_true p396
            replace q396 := eq_true q396
            go_wp2_with (first | ((with_reducible refine zP (N := 9) rfl ?_); refine zO ?hg (N := 9) ?hd (cs := #[.bool false, .bool false, .int .i64 0]) (t := 36) ?hr ?_; (case hd => rfl); (case hg => rfl); (case hr => first | (go_simp; done) | (go_simp; rfl)); intro gb397 hg w125 hbox hb; have n0_ := zB.mk (Kd.R_below (Kd.R_elderB (by (with_reducible repeat (first | apply Kd.R_alloc | apply Kd.R_drewN | apply Kd.R_drew)); exact HO_14.out) gb397 (Nat.le_of_eq hg.symm)) hb); have n1_ := zB.mk (zN (g := gb391) (o := .cells #[.int .i64 a0_0, .int .i64 a0_1, .slice A0_2 l0_2.length c0_2] 28 (0, 0)) (by (with_reducible repeat (first | refine zC ?_ _ | refine zG ?_ | refine zD ?_ _)); exact BK391.out) hb); have n2_ := zB.mk (zK (by repeat (first | (with_reducible first | exact HB.out | apply zF | apply zA | apply zE | refine zH ?_ GE391.out) | exact HB.out)) hb); have n3_ := zB.mk (hbox); have n4_ := zB.mk ((by rw [hg]; exact (zM (by repeat (first | (with_reducible first | exact HB.out | apply zF | apply zA | apply zE | refine zH ?_ GE391.out) | exact HB.out))) : w.heap.size ≤ gb397)); have n5_ := n4_; have n6_ := zB.mk ((by rw [hg]; exact Nat.ne_of_lt (zQ (by (with_reducible repeat (first | refine zC ?_ _ | refine zG ?_ | refine zD ?_ _)); exact BK391.out)) : gb391 ≠ gb397)); have n7_ := zB.mk n6_.out.symm; clear HO_14; clear BK391; clear HB; have HO_14 := n0_; have BK391 := n1_; have HB := n2_; have BK397 := n3_; have GW397 := n4_; have GE397 := n5_; have NB391_397 := n6_; have NB397_391 := n7_; clear n0_ n1_ n2_ n3_ n4_ n5_ n6_ n7_; clear hb hbox hg; have hnb126 := NB397_391.out; have hnc126 := NB391_397.out; have hcz127_0 : w125.cell? ⟨gb397, 0, none⟩ = some (.bool false) := zJ BK397.out 0; have hcz127_1 : w125.cell? ⟨gb397, 1, none⟩ = some (.bool false) := zJ BK397.out 1; have hcz127_2 : w125.cell? ⟨gb397, 2, none⟩ = some (.int .i64 0) := zJ BK397.out 2; have hfz127_0 := zI BK397.out 0; have hfz127_1 := zI BK397.out 1; have hfz127_2 := zI BK397.out 2))
            go_roundg k1
            case measure => have := HK1.out; omega
            case rel => exact ⟨(false), (false), (!((rd_T36 t393 x16_1).f1)), ((rd_T36 t393 x16_1).f1), (wrap64 (x16_1 + 1)), (by first | rfl | (simp; done) | (simp [*]; done)), (by first | rfl | (simp; done) | (simp [*]; done)), (by first | rfl | (simp; done) | (simp [*]; done)), (by first | rfl | (simp; done) | (simp [*]; done)), (by first | rfl | (simp; done) | (simp [*]; done)), H', ⟨by have := HK1.out; omega⟩, ⟨by (with_reducible repeat (first | apply Kd.R_alloc | apply Kd.R_drewN | apply Kd.R_drew)); exact Kd.R_mono (Kd.R_far (p := ⟨gb397, 2, none⟩) (Kd.R_far (p := ⟨gb397, 1, none⟩) (Kd.R_far (p := ⟨gb397, 0, none⟩) (Kd.R_mono HO_14.out (fun k_ hk => (⟨hk, hk.2⟩ : _ ∧ k_ ≠ gb397))) (fun _ hk => hk.2) (.bool true)) (fun _ hk => hk.2) (.bool ((rd_T36 t393 x16_1).f1))) (fun _ hk => hk.2) (.int .i64 ((rd_T36 t393 x16_1).f2))) (fun _ hk => trivial)⟩, ⟨by (with_reducible repeat (first | refine zC ?_ _ | refine zG ?_ | refine zD ?_ _)); refine zL ?_ NB391_397.out _; (with_reducible repeat (first | refine zC ?_ _ | refine zG ?_ | refine zD ?_ _)); refine zL ?_ NB391_397.out _; (with_reducible repeat (first | refine zC ?_ _ | refine zG ?_ | refine zD ?_ _)); refine zL ?_ NB391_397.out _; (with_reducible repeat (first | refine zC ?_ _ | refine zG ?_ | refine zD ?_ _)); exact BK391.out⟩, ⟨by repeat (first | (with_reducible first | exact HB.out | apply zF | apply zA | apply zE | refine zH ?_ GE391.out | refine zH ?_ GE397.out) | exact HB.out)⟩⟩
        ·
         replace c96 := Bool.eq_false_iff.mpr c96
         subst c96
         have H1 : (if (rd_T36 t393 x16_1).f1 = true then (if x5_1 = true then (if x6_1 = true then (if x7_1 = true then (zW.l0 k1 (((rd_T36 t393 x16_1).f2) == 0) true true true t393 (t393.length : Int) (wrap64 (x16_1 + 1))) else (if false = true then (zW.l0 k1 (((rd_T36 t393 x16_1).f2) == 0) true true ((rd_T36 t393 x16_1).f1) t393 (t393.length : Int) (wrap64 (x16_1 + 1))) else (zW.l0 k1 (((rd_T36 t393 x16_1).f2) == 0) true true false t393 (t393.length : Int) (wrap64 (x16_1 + 1))))) else (if false = true then (if x7_1 = true then (zW.l0 k1 (((rd_T36 t393 x16_1).f2) == 0) true (!((rd_T36 t393 x16_1).f1)) true t393 (t393.length : Int) (wrap64 (x16_1 + 1))) else (zW.l0 k1 (((rd_T36 t393 x16_1).f2) == 0) true (!((rd_T36 t393 x16_1).f1)) ((rd_T36 t393 x16_1).f1) t393 (t393.length : Int) (wrap64 (x16_1 + 1)))) else (if x7_1 = true then (zW.l0 k1 (((rd_T36 t393 x16_1).f2) == 0) true false true t393 (t393.length : Int) (wrap64 (x16_1 + 1))) else (zW.l0 k1 (((rd_T36 t393 x16_1).f2) == 0) true false false t393 (t393.length : Int) (wrap64 (x16_1 + 1)))))) else (if x6_1 = true then (if x7_1 = true then (zW.l0 k1 (((rd_T36 t393 x16_1).f2) == 0) (((rd_T36 t393 x16_1).f2) != 0) true true t393 (t393.length : Int) (wrap64 (x16_1 + 1))) else (if false = true then (zW.l0 k1 (((rd_T36 t393 x16_1).f2) == 0) (((rd_T36 t393 x16_1).f2) != 0) true ((rd_T36 t393 x16_1).f1) t393 (t393.length : Int) (wrap64 (x16_1 + 1))) else (zW.l0 k1 (((rd_T36 t393 x16_1).f2) == 0) (((rd_T36 t393 x16_1).f2) != 0) true false t393 (t393.length : Int) (wrap64 (x16_1 + 1))))) else (if false = true then (if x7_1 = true then (zW.l0 k1 (((rd_T36 t393 x16_1).f2) == 0) (((rd_T36 t393 x16_1).f2) != 0) (!((rd_T36 t393 x16_1).f1)) true t393 (t393.length : Int) (wrap64 (x16_1 + 1))) else (zW.l0 k1 (((rd_T36 t393 x16_1).f2) == 0) (((rd_T36 t393 x16_1).f2) != 0) (!((rd_T36 t393 x16_1).f1)) ((rd_T36 t393 x16_1).f1) t393 (t393.length : Int) (wrap64 (x16_1 + 1)))) else (if x7_1 = true then (zW.l0 k1 (((rd_T36 t393 x16_1).f2) == 0) (((rd_T36 t393 x16_1).f2) != 0) false true t393 (t393.length : Int) (wrap64 (x16_1 + 1))) else (zW.l0 k1 (((rd_T36 t393 x16_1).f2) == 0) (((rd_T36 t393 x16_1).f2) != 0) false false t393 (t393.length : Int) (wrap64 (x16_1 + 1))))))) else (if x5_1 = true then (if x6_1 = true then (if x7_1 = true then (zW.l0 k1 false true true true t393 (t393.length : Int) (wrap64 (x16_1 + 1))) else (if false = true then (zW.l0 k1 false true true ((rd_T36 t393 x16_1).f1) t393 (t393.length : Int) (wrap64 (x16_1 + 1))) else (zW.l0 k1 false true true false t393 (t393.length : Int) (wrap64 (x16_1 + 1))))) else (if false = true then (if x7_1 = true then (zW.l0 k1 false true (!((rd_T36 t393 x16_1).f1)) true t393 (t393.length : Int) (wrap64 (x16_1 + 1))) else (zW.l0 k1 false true (!((rd_T36 t393 x16_1).f1)) ((rd_T36 t393 x16_1).f1) t393 (t393.length : Int) (wrap64 (x16_1 + 1)))) else (if x7_1 = true then (zW.l0 k1 false true false true t393 (t393.length : Int) (wrap64 (x16_1 + 1))) else (zW.l0 k1 false true false false t393 (t393.length : Int) (wrap64 (x16_1 + 1)))))) else (if x6_1 = true then (if x7_1 = true then (zW.l0 k1 false false true true t393 (t393.length : Int) (wrap64 (x16_1 + 1))) else (if false = true then (zW.l0 k1 false false true ((rd_T36 t393 x16_1).f1) t393 (t393.length : Int) (wrap64 (x16_1 + 1))) else (zW.l0 k1 false false true false t393 (t393.length : Int) (wrap64 (x16_1 + 1))))) else (if false = true then (if x7_1 = true then (zW.l0 k1 false false (!((rd_T36 t393 x16_1).f1)) true t393 (t393.length : Int) (wrap64 (x16_1 + 1))) else (zW.l0 k1 false false (!((rd_T36 t393 x16_1).f1)) ((rd_T36 t393 x16_1).f1) t393 (t393.length : Int) (wrap64 (x16_1 + 1)))) else (if x7_1 = true then (zW.l0 k1 false false false true t393 (t393.length : Int) (wrap64 (x16_1 + 1))) else (zW.l0 k1 false false false false t393 (t393.length : Int) (wrap64 (x16_1 + 1)))))))) = some (r1, r2) := by rw [if_neg (show ¬ (false = true) by decide)] at H; exact H
         clear H
         have H := H1
         clear H1
         obtain ⟨bq128, hbq128⟩ : ∃ b_ : Bool, b_ = ((rd_T36 t393 x16_1).f1) := ⟨_, rfl⟩
         replace H : (if bq128 = true then (if x5_1 = true then (if x6_1 = true then (if x7_1 = true then (zW.l0 k1 (((rd_T36 t393 x16_1).f2) == 0) true true true t393 (t393.length : Int) (wrap64 (x16_1 + 1))) else (if false = true then (zW.l0 k1 (((rd_T36 t393 x16_1).f2) == 0) true true bq128 t393 (t393.length : Int) (wrap64 (x16_1 + 1))) else (zW.l0 k1 (((rd_T36 t393 x16_1).f2) == 0) true true false t393 (t393.length : Int) (wrap64 (x16_1 + 1))))) else (if false = true then (if x7_1 = true then (zW.l0 k1 (((rd_T36 t393 x16_1).f2) == 0) true (!(bq128)) true t393 (t393.length : Int) (wrap64 (x16_1 + 1))) else (zW.l0 k1 (((rd_T36 t393 x16_1).f2) == 0) true (!(bq128)) bq128 t393 (t393.length : Int) (wrap64 (x16_1 + 1)))) else (if x7_1 = true then (zW.l0 k1 (((rd_T36 t393 x16_1).f2) == 0) true false true t393 (t393.length : Int) (wrap64 (x16_1 + 1))) else (zW.l0 k1 (((rd_T36 t393 x16_1).f2) == 0) true false false t393 (t393.length : Int) (wrap64 (x16_1 + 1)))))) else (if x6_1 = true then (if x7_1 = true then (zW.l0 k1 (((rd_T36 t393 x16_1).f2) == 0) (((rd_T36 t393 x16_1).f2) != 0) true true t393 (t393.length : Int) (wrap64 (x16_1 + 1))) else (if false = true then (zW.l0 k1 (((rd_T36 t393 x16_1).f2) == 0) (((rd_T36 t393 x16_1).f2) != 0) true bq128 t393 (t393.length : Int) (wrap64 (x16_1 + 1))) else (zW.l0 k1 (((rd_T36 t393 x16_1).f2) == 0) (((rd_T36 t393 x16_1).f2) != 0) true false t393 (t393.length : Int) (wrap64 (x16_1 + 1))))) else (if false = true then (if x7_1 = true then (zW.l0 k1 (((rd_T36 t393 x16_1).f2) == 0) (((rd_T36 t393 x16_1).f2) != 0) (!(bq128)) true t393 (t393.length : Int) (wrap64 (x16_1 + 1))) else (zW.l0 k1 (((rd_T36 t393 x16_1).f2) == 0) (((rd_T36 t393 x16_1).f2) != 0) (!(bq128)) bq128 t393 (t393.length : Int) (wrap64 (x16_1 + 1)))) else (if x7_1 = true then (zW.l0 k1 (((rd_T36 t393 x16_1).f2) == 0) (((rd_T36 t393 x16_1).f2) != 0) false true t393 (t393.length : Int) (wrap64 (x16_1 + 1))) else (zW.l0 k1 (((rd_T36 t393 x16_1).f2) == 0) (((rd_T36 t393 x16_1).f2) != 0) false false t393 (t393.length : Int) (wrap64 (x16_1 + 1))))))) else (if x5_1 = true then (if x6_1 = true then (if x7_1 = true then (zW.l0 k1 false true true true t393 (t393.length : Int) (wrap64 (x16_1 + 1))) else (if false = true then (zW.l0 k1 false true true bq128 t393 (t393.length : Int) (wrap64 (x16_1 + 1))) else (zW.l0 k1 false true true false t393 (t393.length : Int) (wrap64 (x16_1 + 1))))) else (if false = true then (if x7_1 = true then (zW.l0 k1 false true (!(bq128)) true t393 (t393.length : Int) (wrap64 (x16_1 + 1))) else (zW.l0 k1 false true (!(bq128)) bq128 t393 (t393.length : Int) (wrap64 (x16_1 + 1)))) else (if x7_1 = true then (zW.l0 k1 false true false true t393 (t393.length : Int) (wrap64 (x16_1 + 1))) else (zW.l0 k1 false true false false t393 (t393.length : Int) (wrap64 (x16_1 + 1)))))) else (if x6_1 = true then (if x7_1 = true then (zW.l0 k1 false false true true t393 (t393.length : Int) (wrap64 (x16_1 + 1))) else (if false = true then (zW.l0 k1 false false true bq128 t393 (t393.length : Int) (wrap64 (x16_1 + 1))) else (zW.l0 k1 false false true false t393 (t393.length : Int) (wrap64 (x16_1 + 1))))) else (if false = true then (if x7_1 = true then (zW.l0 k1 false false (!(bq128)) true t393 (t393.length : Int) (wrap64 (x16_1 + 1))) else (zW.l0 k1 false false (!(bq128)) bq128 t393 (t393.length : Int) (wrap64 (x16_1 + 1)))) else (if x7_1 = true then (zW.l0 k1 false false false true t393 (t393.length : Int) (wrap64 (x16_1 + 1))) else (zW.l0 k1 false false false false t393 (t393.length : Int) (wrap64 (x16_1 + 1)))))))) = some (r1, r2) := by rw [← hbq128] at H; exact H
         have Nbq128 := zB.mk hbq128
         clear hbq128
         by_cases c129 : bq128 = true
         ·
          subst c129
          have H1 : (if x5_1 = true then (if x6_1 = true then (if x7_1 = true then (zW.l0 k1 (((rd_T36 t393 x16_1).f2) == 0) true true true t393 (t393.length : Int) (wrap64 (x16_1 + 1))) else (if false = true then (zW.l0 k1 (((rd_T36 t393 x16_1).f2) == 0) true true true t393 (t393.length : Int) (wrap64 (x16_1 + 1))) else (zW.l0 k1 (((rd_T36 t393 x16_1).f2) == 0) true true false t393 (t393.length : Int) (wrap64 (x16_1 + 1))))) else (if false = true then (if x7_1 = true then (zW.l0 k1 (((rd_T36 t393 x16_1).f2) == 0) true (!(true)) true t393 (t393.length : Int) (wrap64 (x16_1 + 1))) else (zW.l0 k1 (((rd_T36 t393 x16_1).f2) == 0) true (!(true)) true t393 (t393.length : Int) (wrap64 (x16_1 + 1)))) else (if x7_1 = true then (zW.l0 k1 (((rd_T36 t393 x16_1).f2) == 0) true false true t393 (t393.length : Int) (wrap64 (x16_1 + 1))) else (zW.l0 k1 (((rd_T36 t393 x16_1).f2) == 0) true false false t393 (t393.length : Int) (wrap64 (x16_1 + 1)))))) else (if x6_1 = true then (if x7_1 = true then (zW.l0 k1 (((rd_T36 t393 x16_1).f2) == 0) (((rd_T36 t393 x16_1).f2) != 0) true true t393 (t393.length : Int) (wrap64 (x16_1 + 1))) else (if false = true then (zW.l0 k1 (((rd_T36 t393 x16_1).f2) == 0) (((rd_T36 t393 x16_1).f2) != 0) true true t393 (t393.length : Int) (wrap64 (x16_1 + 1))) else (zW.l0 k1 (((rd_T36 t393 x16_1).f2) == 0) (((rd_T36 t393 x16_1).f2) != 0) true false t393 (t393.length : Int) (wrap64 (x16_1 + 1))))) else (if false = true then (if x7_1 = true then (zW.l0 k1 (((rd_T36 t393 x16_1).f2) == 0) (((rd_T36 t393 x16_1).f2) != 0) (!(true)) true t393 (t393.length : Int) (wrap64 (x16_1 + 1))) else (zW.l0 k1 (((rd_T36 t393 x16_1).f2) == 0) (((rd_T36 t393 x16_1).f2) != 0) (!(true)) true t393 (t393.length : Int) (wrap64 (x16_1 + 1)))) else (if x7_1 = true then (zW.l0 k1 (((rd_T36 t393 x16_1).f2) == 0) (((rd_T36 t393 x16_1).f2) != 0) false true t393 (t393.length : Int) (wrap64 (x16_1 + 1))) else (zW.l0 k1 (((rd_T36 t393 x16_1).f2) == 0) (((rd_T36 t393 x16_1).f2) != 0) false false t393 (t393.length : Int) (wrap64 (x16_1 + 1))))))) = some (r1, r2) := by rw [if_pos rfl] at H; exact H
          clear H
          have H := H1
          clear H1
          by_cases c130 : x5_1 = true
          ·
           subst c130
           have H1 : (if x6_1 = true then (if x7_1 = true then (zW.l0 k1 (((rd_T36 t393 x16_1).f2) == 0) true true true t393 (t393.length : Int) (wrap64 (x16_1 + 1))) else (if false = true then (zW.l0 k1 (((rd_T36 t393 x16_1).f2) == 0) true true true t393 (t393.length : Int) (wrap64 (x16_1 + 1))) else (zW.l0 k1 (((rd_T36 t393 x16_1).f2) == 0) true true false t393 (t393.length : Int) (wrap64 (x16_1 + 1))))) else (if false = true then (if x7_1 = true then (zW.l0 k1 (((rd_T36 t393 x16_1).f2) == 0) true (!(true)) true t393 (t393.length : Int) (wrap64 (x16_1 + 1))) else (zW.l0 k1 (((rd_T36 t393 x16_1).f2) == 0) true (!(true)) true t393 (t393.length : Int) (wrap64 (x16_1 + 1)))) else (if x7_1 = true then (zW.l0 k1 (((rd_T36 t393 x16_1).f2) == 0) true false true t393 (t393.length : Int) (wrap64 (x16_1 + 1))) else (zW.l0 k1 (((rd_T36 t393 x16_1).f2) == 0) true false false t393 (t393.length : Int) (wrap64 (x16_1 + 1)))))) = some (r1, r2) := by rw [if_pos rfl] at H; exact H
           clear H
           have H := H1
           clear H1
           by_cases c131 : x6_1 = true
           ·
            subst c131
            have H1 : (if x7_1 = true then (zW.l0 k1 (((rd_T36 t393 x16_1).f2) == 0) true true true t393 (t393.length : Int) (wrap64 (x16_1 + 1))) else (if false = true then (zW.l0 k1 (((rd_T36 t393 x16_1).f2) == 0) true true true t393 (t393.length : Int) (wrap64 (x16_1 + 1))) else (zW.l0 k1 (((rd_T36 t393 x16_1).f2) == 0) true true false t393 (t393.length : Int) (wrap64 (x16_1 + 1))))) = some (r1, r2) := by rw [if_pos rfl] at H; exact H
            clear H
            have H := H1
            clear H1
            by_cases c132 : x7_1 = true
            ·
             subst c132
             have H1 : (zW.l0 k1 (((rd_T36 t393 x16_1).f2) == 0) true true true t393 (t393.length : Int) (wrap64 (x16_1 + 1))) = some (r1, r2) := by rw [if_pos rfl] at H; exact H
             clear H
             have H := H1
             clear H1
             have H' := zB.mk H
             clear H
             have p396 : 0 ≤ (x16_1 : Int) := of_decide_eq_true (by first | (with_reducible assumption) | assumption)
             have q396 : x16_1 < (t393.length : Int) := of_decide_eq_true (by first | (with_reducible assumption) | assumption)
             obtain ⟨ad396, e396, hx396_0, hx396_1, hx396_2⟩ := at_T36 (Kd.R_reads' HO_14.out).2.2 x16_1 p396 q396
             (try rw [← Nbq95.out] at hx396_0)
             (try rw [← Nbq128.out] at hx396_0)
             (try rw [← Nbq95.out] at hx396_1)
             (try rw [← Nbq128.out] at hx396_1)
             cases e396
             replace p396 := eq_true p396
             replace q396 := eq_true q396
             go_wp2_with (first | ((with_reducible refine zP (N := 9) rfl ?_); refine zO ?hg (N := 9) ?hd (cs := #[.bool false, .bool false, .int .i64 0]) (t := 36) ?hr ?_; (case hd => rfl); (case hg => rfl); (case hr => first | (go_simp; done) | (go_simp; rfl)); intro gb397 hg w133 hbox hb; have n0_ := zB.mk (Kd.R_below (Kd.R_elderB (by (with_reducible repeat (first | apply Kd.R_alloc | apply Kd.R_drewN | apply Kd.R_drew)); exact HO_14.out) gb397 (Nat.le_of_eq hg.symm)) hb); have n1_ := zB.mk (zN (g := gb391) (o := .cells #[.int .i64 a0_0, .int .i64 a0_1, .slice A0_2 l0_2.length c0_2] 28 (0, 0)) (by (with_reducible repeat (first | refine zC ?_ _ | refine zG ?_ | refine zD ?_ _)); exact BK391.out) hb); have n2_ := zB.mk (zK (by repeat (first | (with_reducible first | exact HB.out | apply zF | apply zA | apply zE | refine zH ?_ GE391.out) | exact HB.out)) hb); have n3_ := zB.mk (hbox); have n4_ := zB.mk ((by rw [hg]; exact (zM (by repeat (first | (with_reducible first | exact HB.out | apply zF | apply zA | apply zE | refine zH ?_ GE391.out) | exact HB.out))) : w.heap.size ≤ gb397)); have n5_ := n4_; have n6_ := zB.mk ((by rw [hg]; exact Nat.ne_of_lt (zQ (by (with_reducible repeat (first | refine zC ?_ _ | refine zG ?_ | refine zD ?_ _)); exact BK391.out)) : gb391 ≠ gb397)); have n7_ := zB.mk n6_.out.symm; clear HO_14; clear BK391; clear HB; have HO_14 := n0_; have BK391 := n1_; have HB := n2_; have BK397 := n3_; have GW397 := n4_; have GE397 := n5_; have NB391_397 := n6_; have NB397_391 := n7_; clear n0_ n1_ n2_ n3_ n4_ n5_ n6_ n7_; clear hb hbox hg; have hnb134 := NB397_391.out; have hnc134 := NB391_397.out; have hcz135_0 : w133.cell? ⟨gb397, 0, none⟩ = some (.bool false) := zJ BK397.out 0; have hcz135_1 : w133.cell? ⟨gb397, 1, none⟩ = some (.bool false) := zJ BK397.out 1; have hcz135_2 : w133.cell? ⟨gb397, 2, none⟩ = some (.int .i64 0) := zJ BK397.out 2; have hfz135_0 := zI BK397.out 0; have hfz135_1 := zI BK397.out 1; have hfz135_2 := zI BK397.out 2))
             go_roundg k1
             case measure => have := HK1.out; omega
             case rel => exact ⟨((((rd_T36 t393 x16_1).f2) == 0)), (true), (true), (true), (wrap64 (x16_1 + 1)), (by first | rfl | (simp; done) | (simp [*]; done)), (by first | rfl | (simp; done) | (simp [*]; done)), (by first | rfl | (simp; done) | (simp [*]; done)), (by first | rfl | (simp; done) | (simp [*]; done)), (by first | rfl | (simp; done) | (simp [*]; done)), H', ⟨by have := HK1.out; omega⟩, ⟨by (with_reducible repeat (first | apply Kd.R_alloc | apply Kd.R_drewN | apply Kd.R_drew)); exact Kd.R_mono (Kd.R_far (p := ⟨gb397, 2, none⟩) (Kd.R_far (p := ⟨gb397, 1, none⟩) (Kd.R_far (p := ⟨gb397, 0, none⟩) (Kd.R_mono HO_14.out (fun k_ hk => (⟨hk, hk.2⟩ : _ ∧ k_ ≠ gb397))) (fun _ hk => hk.2) (.bool false)) (fun _ hk => hk.2) (.bool true)) (fun _ hk => hk.2) (.int .i64 ((rd_T36 t393 x16_1).f2))) (fun _ hk => trivial)⟩, ⟨by (with_reducible repeat (first | refine zC ?_ _ | refine zG ?_ | refine zD ?_ _)); refine zL ?_ NB391_397.out _; (with_reducible repeat (first | refine zC ?_ _ | refine zG ?_ | refine zD ?_ _)); refine zL ?_ NB391_397.out _; (with_reducible repeat (first | refine zC ?_ _ | refine zG ?_ | refine zD ?_ _)); refine zL ?_ NB391_397.out _; (with_reducible repeat (first | refine zC ?_ _ | refine zG ?_ | refine zD ?_ _)); exact BK391.out⟩, ⟨by repeat (first | (with_reducible first | exact HB.out | apply zF | apply zA | apply zE | refine zH ?_ GE391.out | refine zH ?_ GE397.out) | exact HB.out)⟩⟩
            ·
             replace c132 := Bool.eq_false_iff.mpr c132
             subst c132
             have H1 : (if false = true then (zW.l0 k1 (((rd_T36 t393 x16_1).f2) == 0) true true true t393 (t393.length : Int) (wrap64 (x16_1 + 1))) else (zW.l0 k1 (((rd_T36 t393 x16_1).f2) == 0) true true false t393 (t393.length : Int) (wrap64 (x16_1 + 1)))) = some (r1, r2) := by rw [if_neg (show ¬ (false = true) by decide)] at H; exact H
             clear H
             have H := H1
             clear H1
             have H1 : (zW.l0 k1 (((rd_T36 t393 x16_1).f2) == 0) true true false t393 (t393.length : Int) (wrap64 (x16_1 + 1))) = some (r1, r2) := by rw [if_neg (show ¬ (false = true) by decide)] at H; exact H
             clear H
             have H := H1
             clear H1
             have H' := zB.mk H
             clear H
             have p396 : 0 ≤ (x16_1 : Int) := of_decide_eq_true (by first | (with_reducible assumption) | assumption)
             have q396 : x16_1 < (t393.length : Int) := of_decide_eq_true (by first | (with_reducible assumption) | assumption)
             obtain ⟨ad396, e396, hx396_0, hx396_1, hx396_2⟩ := at_T36 (Kd.R_reads' HO_14.out).2.2 x16_1 p396 q396
             (try rw [← Nbq95.out] at hx396_0)
             (try rw [← Nbq128.out] at hx396_0)
             (try rw [← Nbq95.out] at hx396_1)
             (try rw [← Nbq128.out] at hx396_1)
             cases e396
             replace p396 := eq_true p396
             replace q396 := eq_true q396
             go_wp2_with (first | ((with_reducible refine zP (N := 9) rfl ?_); refine zO ?hg (N := 9) ?hd (cs := #[.bool false, .bool false, .int .i64 0]) (t := 36) ?hr ?_; (case hd => rfl); (case hg => rfl); (case hr => first | (go_simp; done) | (go_simp; rfl)); intro gb397 hg w136 hbox hb; have n0_ := zB.mk (Kd.R_below (Kd.R_elderB (by (with_reducible repeat (first | apply Kd.R_alloc | apply Kd.R_drewN | apply Kd.R_drew)); exact HO_14.out) gb397 (Nat.le_of_eq hg.symm)) hb); have n1_ := zB.mk (zN (g := gb391) (o := .cells #[.int .i64 a0_0, .int .i64 a0_1, .slice A0_2 l0_2.length c0_2] 28 (0, 0)) (by (with_reducible repeat (first | refine zC ?_ _ | refine zG ?_ | refine zD ?_ _)); exact BK391.out) hb); have n2_ := zB.mk (zK (by repeat (first | (with_reducible first | exact HB.out | apply zF | apply zA | apply zE | refine zH ?_ GE391.out) | exact HB.out)) hb); have n3_ := zB.mk (hbox); have n4_ := zB.mk ((by rw [hg]; exact (zM (by repeat (first | (with_reducible first | exact HB.out | apply zF | apply zA | apply zE | refine zH ?_ GE391.out) | exact HB.out))) : w.heap.size ≤ gb397)); have n5_ := n4_; have n6_ := zB.mk ((by rw [hg]; exact Nat.ne_of_lt (zQ (by (with_reducible repeat (first | refine zC ?_ _ | refine zG ?_ | refine zD ?_ _)); exact BK391.out)) : gb391 ≠ gb397)); have n7_ := zB.mk n6_.out.symm; clear HO_14; clear BK391; clear HB; have HO_14 := n0_; have BK391 := n1_; have HB := n2_; have BK397 := n3_; have GW397 := n4_; have GE397 := n5_; have NB391_397 := n6_; have NB397_391 := n7_; clear n0_ n1_ n2_ n3_ n4_ n5_ n6_ n7_; clear hb hbox hg; have hnb137 := NB397_391.out; have hnc137 := NB391_397.out; have hcz138_0 : w136.cell? ⟨gb397, 0, none⟩ = some (.bool false) := zJ BK397.out 0; have hcz138_1 : w136.cell? ⟨gb397, 1, none⟩ = some (.bool false) := zJ BK397.out 1; have hcz138_2 : w136.cell? ⟨gb397, 2, none⟩ = some (.int .i64 0) := zJ BK397.out 2; have hfz138_0 := zI BK397.out 0; have hfz138_1 := zI BK397.out 1; have hfz138_2 := zI BK397.out 2))
             go_roundg k1
             case measure => have := HK1.out; omega
             case rel => exact ⟨((((rd_T36 t393 x16_1).f2) == 0)), (true), (true), (false), (wrap64 (x16_1 + 1)), (by first | rfl | (simp; done) | (simp [*]; done)), (by first | rfl | (simp; done) | (simp [*]; done)), (by first | rfl | (simp; done) | (simp [*]; done)), (by first | rfl | (simp; done) | (simp [*]; done)), (by first | rfl | (simp; done) | (simp [*]; done)), H', ⟨by have := HK1.out; omega⟩, ⟨by (with_reducible repeat (first | apply Kd.R_alloc | apply Kd.R_drewN | apply Kd.R_drew)); exact Kd.R_mono (Kd.R_far (p := ⟨gb397, 2, none⟩) (Kd.R_far (p := ⟨gb397, 1, none⟩) (Kd.R_far (p := ⟨gb397, 0, none⟩) (Kd.R_mono HO_14.out (fun k_ hk => (⟨hk, hk.2⟩ : _ ∧ k_ ≠ gb397))) (fun _ hk => hk.2) (.bool false)) (fun _ hk => hk.2) (.bool true)) (fun _ hk => hk.2) (.int .i64 ((rd_T36 t393 x16_1).f2))) (fun _ hk => trivial)⟩, ⟨by (with_reducible repeat (first | refine zC ?_ _ | refine zG ?_ | refine zD ?_ _)); refine zL ?_ NB391_397.out _; (with_reducible repeat (first | refine zC ?_ _ | refine zG ?_ | refine zD ?_ _)); refine zL ?_ NB391_397.out _; (with_reducible repeat (first | refine zC ?_ _ | refine zG ?_ | refine zD ?_ _)); refine zL ?_ NB391_397.out _; (with_reducible repeat (first | refine zC ?_ _ | refine zG ?_ | refine zD ?_ _)); exact BK391.out⟩, ⟨by repeat (first | (with_reducible first | exact HB.out | apply zF | apply zA | apply zE | refine zH ?_ GE391.out | refine zH ?_ GE397.out) | exact HB.out)⟩⟩
           ·
            replace c131 := Bool.eq_false_iff.mpr c131
            subst c131
            have H1 : (if false = true then (if x7_1 = true then (zW.l0 k1 (((rd_T36 t393 x16_1).f2) == 0) true (!(true)) true t393 (t393.length : Int) (wrap64 (x16_1 + 1))) else (zW.l0 k1 (((rd_T36 t393 x16_1).f2) == 0) true (!(true)) true t393 (t393.length : Int) (wrap64 (x16_1 + 1)))) else (if x7_1 = true then (zW.l0 k1 (((rd_T36 t393 x16_1).f2) == 0) true false true t393 (t393.length : Int) (wrap64 (x16_1 + 1))) else (zW.l0 k1 (((rd_T36 t393 x16_1).f2) == 0) true false false t393 (t393.length : Int) (wrap64 (x16_1 + 1))))) = some (r1, r2) := by rw [if_neg (show ¬ (false = true) by decide)] at H; exact H
            clear H
            have H := H1
            clear H1
            have H1 : (if x7_1 = true then (zW.l0 k1 (((rd_T36 t393 x16_1).f2) == 0) true false true t393 (t393.length : Int) (wrap64 (x16_1 + 1))) else (zW.l0 k1 (((rd_T36 t393 x16_1).f2) == 0) true false false t393 (t393.length : Int) (wrap64 (x16_1 + 1)))) = some (r1, r2) := by rw [if_neg (show ¬ (false = true) by decide)] at H; exact H
            clear H
            have H := H1
            clear H1
            by_cases c139 : x7_1 = true
            ·
             subst c139
             have H1 : (zW.l0 k1 (((rd_T36 t393 x16_1).f2) == 0) true false true t393 (t393.length : Int) (wrap64 (x16_1 + 1))) = some (r1, r2) := by rw [if_pos rfl] at H; exact H
             clear H
             have H := H1
             clear H1
             have H' := zB.mk H
             clear H
             have p396 : 0 ≤ (x16_1 : Int) := of_decide_eq_true (by first | (with_reducible assumption) | assumption)
             have q396 : x16_1 < (t393.length : Int) := of_decide_eq_true (by first | (with_reducible assumption) | assumption)
             obtain ⟨ad396, e396, hx396_0, hx396_1, hx396_2⟩ := at_T36 (Kd.R_reads' HO_14.out).2.2 x16_1 p396 q396
             (try rw [← Nbq95.out] at hx396_0)
             (try rw [← Nbq128.out] at hx396_0)
             (try rw [← Nbq95.out] at hx396_1)
             (try rw [← Nbq128.out] at hx396_1)
             cases e396
             replace p396 := eq_true p396
             replace q396 := eq_true q396
             go_wp2_with (first | ((with_reducible refine zP (N := 9) rfl ?_); refine zO ?hg (N := 9) ?hd (cs := #[.bool false, .bool false, .int .i64 0]) (t := 36) ?hr ?_; (case hd => rfl); (case hg => rfl); (case hr => first | (go_simp; done) | (go_simp; rfl)); intro gb397 hg w140 hbox hb; have n0_ := zB.mk (Kd.R_below (Kd.R_elderB (by (with_reducible repeat (first | apply Kd.R_alloc | apply Kd.R_drewN | apply Kd.R_drew)); exact HO_14.out) gb397 (Nat.le_of_eq hg.symm)) hb); have n1_ := zB.mk (zN (g := gb391) (o := .cells #[.int .i64 a0_0, .int .i64 a0_1, .slice A0_2 l0_2.length c0_2] 28 (0, 0)) (by (with_reducible repeat (first | refine zC ?_ _ | refine zG ?_ | refine zD ?_ _)); exact BK391.out) hb); have n2_ := zB.mk (zK (by repeat (first | (with_reducible first | exact HB.out | apply zF | apply zA | apply zE | refine zH ?_ GE391.out) | exact HB.out)) hb); have n3_ := zB.mk (hbox); have n4_ := zB.mk ((by rw [hg]; exact (zM (by repeat (first | (with_reducible first | exact HB.out | apply zF | apply zA | apply zE | refine zH ?_ GE391.out) | exact HB.out))) : w.heap.size ≤ gb397)); have n5_ := n4_; have n6_ := zB.mk ((by rw [hg]; exact Nat.ne_of_lt (zQ (by (with_reducible repeat (first | refine zC ?_ _ | refine zG ?_ | refine zD ?_ _)); exact BK391.out)) : gb391 ≠ gb397)); have n7_ := zB.mk n6_.out.symm; clear HO_14; clear BK391; clear HB; have HO_14 := n0_; have BK391 := n1_; have HB := n2_; have BK397 := n3_; have GW397 := n4_; have GE397 := n5_; have NB391_397 := n6_; have NB397_391 := n7_; clear n0_ n1_ n2_ n3_ n4_ n5_ n6_ n7_; clear hb hbox hg; have hnb141 := NB397_391.out; have hnc141 := NB391_397.out; have hcz142_0 : w140.cell? ⟨gb397, 0, none⟩ = some (.bool false) := zJ BK397.out 0; have hcz142_1 : w140.cell? ⟨gb397, 1, none⟩ = some (.bool false) := zJ BK397.out 1; have hcz142_2 : w140.cell? ⟨gb397, 2, none⟩ = some (.int .i64 0) := zJ BK397.out 2; have hfz142_0 := zI BK397.out 0; have hfz142_1 := zI BK397.out 1; have hfz142_2 := zI BK397.out 2))
             go_roundg k1
             case measure => have := HK1.out; omega
             case rel => exact ⟨((((rd_T36 t393 x16_1).f2) == 0)), (true), (false), (true), (wrap64 (x16_1 + 1)), (by first | rfl | (simp; done) | (simp [*]; done)), (by first | rfl | (simp; done) | (simp [*]; done)), (by first | rfl | (simp; done) | (simp [*]; done)), (by first | rfl | (simp; done) | (simp [*]; done)), (by first | rfl | (simp; done) | (simp [*]; done)), H', ⟨by have := HK1.out; omega⟩, ⟨by (with_reducible repeat (first | apply Kd.R_alloc | apply Kd.R_drewN | apply Kd.R_drew)); exact Kd.R_mono (Kd.R_far (p := ⟨gb397, 2, none⟩) (Kd.R_far (p := ⟨gb397, 1, none⟩) (Kd.R_far (p := ⟨gb397, 0, none⟩) (Kd.R_mono HO_14.out (fun k_ hk => (⟨hk, hk.2⟩ : _ ∧ k_ ≠ gb397))) (fun _ hk => hk.2) (.bool false)) (fun _ hk => hk.2) (.bool true)) (fun _ hk => hk.2) (.int .i64 ((rd_T36 t393 x16_1).f2))) (fun _ hk => trivial)⟩, ⟨by (with_reducible repeat (first | refine zC ?_ _ | refine zG ?_ | refine zD ?_ _)); refine zL ?_ NB391_397.out _; (with_reducible repeat (first | refine zC ?_ _ | refine zG ?_ | refine zD ?_ _)); refine zL ?_ NB391_397.out _; (with_reducible repeat (first | refine zC ?_ _ | refine zG ?_ | refine zD ?_ _)); refine zL ?_ NB391_397.out _; (with_reducible repeat (first | refine zC ?_ _ | refine zG ?_ | refine zD ?_ _)); exact BK391.out⟩, ⟨by repeat (first | (with_reducible first | exact HB.out | apply zF | apply zA | apply zE | refine zH ?_ GE391.out | refine zH ?_ GE397.out) | exact HB.out)⟩⟩
            ·
             replace c139 := Bool.eq_false_iff.mpr c139
             subst c139
             have H1 : (zW.l0 k1 (((rd_T36 t393 x16_1).f2) == 0) true false false t393 (t393.length : Int) (wrap64 (x16_1 + 1))) = some (r1, r2) := by rw [if_neg (show ¬ (false = true) by decide)] at H; exact H
             clear H
             have H := H1
             clear H1
             have H' := zB.mk H
             clear H
             have p396 : 0 ≤ (x16_1 : Int) := of_decide_eq_true (by first | (with_reducible assumption) | assumption)
             have q396 : x16_1 < (t393.length : Int) := of_decide_eq_true (by first | (with_reducible assumption) | assumption)
             obtain ⟨ad396, e396, hx396_0, hx396_1, hx396_2⟩ := at_T36 (Kd.R_reads' HO_14.out).2.2 x16_1 p396 q396
             (try rw [← Nbq95.out] at hx396_0)
             (try rw [← Nbq128.out] at hx396_0)
             (try rw [← Nbq95.out] at hx396_1)
             (try rw [← Nbq128.out] at hx396_1)
             cases e396
             replace p396 := eq_true p396
             replace q396 := eq_true q396
             go_wp2_with (first | ((with_reducible refine zP (N := 9) rfl ?_); refine zO ?hg (N := 9) ?hd (cs := #[.bool false, .bool false, .int .i64 0]) (t := 36) ?hr ?_; (case hd => rfl); (case hg => rfl); (case hr => first | (go_simp; done) | (go_simp; rfl)); intro gb397 hg w143 hbox hb; have n0_ := zB.mk (Kd.R_below (Kd.R_elderB (by (with_reducible repeat (first | apply Kd.R_alloc | apply Kd.R_drewN | apply Kd.R_drew)); exact HO_14.out) gb397 (Nat.le_of_eq hg.symm)) hb); have n1_ := zB.mk (zN (g := gb391) (o := .cells #[.int .i64 a0_0, .int .i64 a0_1, .slice A0_2 l0_2.length c0_2] 28 (0, 0)) (by (with_reducible repeat (first | refine zC ?_ _ | refine zG ?_ | refine zD ?_ _)); exact BK391.out) hb); have n2_ := zB.mk (zK (by repeat (first | (with_reducible first | exact HB.out | apply zF | apply zA | apply zE | refine zH ?_ GE391.out) | exact HB.out)) hb); have n3_ := zB.mk (hbox); have n4_ := zB.mk ((by rw [hg]; exact (zM (by repeat (first | (with_reducible first | exact HB.out | apply zF | apply zA | apply zE | refine zH ?_ GE391.out) | exact HB.out))) : w.heap.size ≤ gb397)); have n5_ := n4_; have n6_ := zB.mk ((by rw [hg]; exact Nat.ne_of_lt (zQ (by (with_reducible repeat (first | refine zC ?_ _ | refine zG ?_ | refine zD ?_ _)); exact BK391.out)) : gb391 ≠ gb397)); have n7_ := zB.mk n6_.out.symm; clear HO_14; clear BK391; clear HB; have HO_14 := n0_; have BK391 := n1_; have HB := n2_; have BK397 := n3_; have GW397 := n4_; have GE397 := n5_; have NB391_397 := n6_; have NB397_391 := n7_; clear n0_ n1_ n2_ n3_ n4_ n5_ n6_ n7_; clear hb hbox hg; have hnb144 := NB397_391.out; have hnc144 := NB391_397.out; have hcz145_0 : w143.cell? ⟨gb397, 0, none⟩ = some (.bool false) := zJ BK397.out 0; have hcz145_1 : w143.cell? ⟨gb397, 1, none⟩ = some (.bool false) := zJ BK397.out 1; have hcz145_2 : w143.cell? ⟨gb397, 2, none⟩ = some (.int .i64 0) := zJ BK397.out 2; have hfz145_0 := zI BK397.out 0; have hfz145_1 := zI BK397.out 1; have hfz145_2 := zI BK397.out 2))
             go_roundg k1
             case measure => have := HK1.out; omega
             case rel => exact ⟨((((rd_T36 t393 x16_1).f2) == 0)), (true), (false), (false), (wrap64 (x16_1 + 1)), (by first | rfl | (simp; done) | (simp [*]; done)), (by first | rfl | (simp; done) | (simp [*]; done)), (by first | rfl | (simp; done) | (simp [*]; done)), (by first | rfl | (simp; done) | (simp [*]; done)), (by first | rfl | (simp; done) | (simp [*]; done)), H', ⟨by have := HK1.out; omega⟩, ⟨by (with_reducible repeat (first | apply Kd.R_alloc | apply Kd.R_drewN | apply Kd.R_drew)); exact Kd.R_mono (Kd.R_far (p := ⟨gb397, 2, none⟩) (Kd.R_far (p := ⟨gb397, 1, none⟩) (Kd.R_far (p := ⟨gb397, 0, none⟩) (Kd.R_mono HO_14.out (fun k_ hk => (⟨hk, hk.2⟩ : _ ∧ k_ ≠ gb397))) (fun _ hk => hk.2) (.bool false)) (fun _ hk => hk.2) (.bool true)) (fun _ hk => hk.2) (.int .i64 ((rd_T36 t393 x16_1).f2))) (fun _ hk => trivial)⟩, ⟨by (with_reducible repeat (first | refine zC ?_ _ | refine zG ?_ | refine zD ?_ _)); refine zL ?_ NB391_397.out _; (with_reducible repeat (first | refine zC ?_ _ | refine zG ?_ | refine zD ?_ _)); refine zL ?_ NB391_397.out _; (with_reducible repeat (first | refine zC ?_ _ | refine zG ?_ | refine zD ?_ _)); refine zL ?_ NB391_397.out _; (with_reducible repeat (first | refine zC ?_ _ | refine zG ?_ | refine zD ?_ _)); exact BK391.out⟩, ⟨by repeat (first | (with_reducible first | exact HB.out | apply zF | apply zA | apply zE | refine zH ?_ GE391.out | refine zH ?_ GE397.out) | exact HB.out)⟩⟩
          ·
           replace c130 := Bool.eq_false_iff.mpr c130
           subst c130
           have H1 : (if x6_1 = true then (if x7_1 = true then (zW.l0 k1 (((rd_T36 t393 x16_1).f2) == 0) (((rd_T36 t393 x16_1).f2) != 0) true true t393 (t393.length : Int) (wrap64 (x16_1 + 1))) else (if false = true then (zW.l0 k1 (((rd_T36 t393 x16_1).f2) == 0) (((rd_T36 t393 x16_1).f2) != 0) true true t393 (t393.length : Int) (wrap64 (x16_1 + 1))) else (zW.l0 k1 (((rd_T36 t393 x16_1).f2) == 0) (((rd_T36 t393 x16_1).f2) != 0) true false t393 (t393.length : Int) (wrap64 (x16_1 + 1))))) else (if false = true then (if x7_1 = true then (zW.l0 k1 (((rd_T36 t393 x16_1).f2) == 0) (((rd_T36 t393 x16_1).f2) != 0) (!(true)) true t393 (t393.length : Int) (wrap64 (x16_1 + 1))) else (zW.l0 k1 (((rd_T36 t393 x16_1).f2) == 0) (((rd_T36 t393 x16_1).f2) != 0) (!(true)) true t393 (t393.length : Int) (wrap64 (x16_1 + 1)))) else (if x7_1 = true then (zW.l0 k1 (((rd_T36 t393 x16_1).f2) == 0) (((rd_T36 t393 x16_1).f2) != 0) false true t393 (t393.length : Int) (wrap64 (x16_1 + 1))) else (zW.l0 k1 (((rd_T36 t393 x16_1).f2) == 0) (((rd_T36 t393 x16_1).f2) != 0) false false t393 (t393.length : Int) (wrap64 (x16_1 + 1)))))) = some (r1, r2) := by rw [if_neg (show ¬ (false = true) by decide)] at H; exact H
           clear H
           have H := H1
           clear H1
           by_cases c146 : x6_1 = true
           ·
            subst c146
            have H1 : (if x7_1 = true then (zW.l0 k1 (((rd_T36 t393 x16_1).f2) == 0) (((rd_T36 t393 x16_1).f2) != 0) true true t393 (t393.length : Int) (wrap64 (x16_1 + 1))) else (if false = true then (zW.l0 k1 (((rd_T36 t393 x16_1).f2) == 0) (((rd_T36 t393 x16_1).f2) != 0) true true t393 (t393.length : Int) (wrap64 (x16_1 + 1))) else (zW.l0 k1 (((rd_T36 t393 x16_1).f2) == 0) (((rd_T36 t393 x16_1).f2) != 0) true false t393 (t393.length : Int) (wrap64 (x16_1 + 1))))) = some (r1, r2) := by rw [if_pos rfl] at H; exact H
            clear H
            have H := H1
            clear H1
            by_cases c147 : x7_1 = true
            ·
             subst c147
             have H1 : (zW.l0 k1 (((rd_T36 t393 x16_1).f2) == 0) (((rd_T36 t393 x16_1).f2) != 0) true true t393 (t393.length : Int) (wrap64 (x16_1 + 1))) = some (r1, r2) := by rw [if_pos rfl] at H; exact H
             clear H
             have H := H1
             clear H1
             have H' := zB.mk H
             clear H
             have p396 : 0 ≤ (x16_1 : Int) := of_decide_eq_true (by first | (with_reducible assumption) | assumption)
             have q396 : x16_1 < (t393.length : Int) := of_decide_eq_true (by first | (with_reducible assumption) | assumption)
             obtain ⟨ad396, e396, hx396_0, hx396_1, hx396_2⟩ := at_T36 (Kd.R_reads' HO_14.out).2.2 x16_1 p396 q396
             (try rw [← Nbq95.out] at hx396_0)
             (try rw [← Nbq128.out] at hx396_0)
             (try rw [← Nbq95.out] at hx396_1)
             (try rw [← Nbq128.out] at hx396_1)
             cases e396
             replace p396 := eq_true p396
             replace q396 := eq_true q396
             go_wp2_with (first | ((with_reducible refine zP (N := 9) rfl ?_); refine zO ?hg (N := 9) ?hd (cs := #[.bool false, .bool false, .int .i64 0]) (t := 36) ?hr ?_; (case hd => rfl); (case hg => rfl); (case hr => first | (go_simp; done) | (go_simp; rfl)); intro gb397 hg w148 hbox hb; have n0_ := zB.mk (Kd.R_below (Kd.R_elderB (by (with_reducible repeat (first | apply Kd.R_alloc | apply Kd.R_drewN | apply Kd.R_drew)); exact HO_14.out) gb397 (Nat.le_of_eq hg.symm)) hb); have n1_ := zB.mk (zN (g := gb391) (o := .cells #[.int .i64 a0_0, .int .i64 a0_1, .slice A0_2 l0_2.length c0_2] 28 (0, 0)) (by (with_reducible repeat (first | refine zC ?_ _ | refine zG ?_ | refine zD ?_ _)); exact BK391.out) hb); have n2_ := zB.mk (zK (by repeat (first | (with_reducible first | exact HB.out | apply zF | apply zA | apply zE | refine zH ?_ GE391.out) | exact HB.out)) hb); have n3_ := zB.mk (hbox); have n4_ := zB.mk ((by rw [hg]; exact (zM (by repeat (first | (with_reducible first | exact HB.out | apply zF | apply zA | apply zE | refine zH ?_ GE391.out) | exact HB.out))) : w.heap.size ≤ gb397)); have n5_ := n4_; have n6_ := zB.mk ((by rw [hg]; exact Nat.ne_of_lt (zQ (by (with_reducible repeat (first | refine zC ?_ _ | refine zG ?_ | refine zD ?_ _)); exact BK391.out)) : gb391 ≠ gb397)); have n7_ := zB.mk n6_.out.symm; clear HO_14; clear BK391; clear HB; have HO_14 := n0_; have BK391 := n1_; have HB := n2_; have BK397 := n3_; have GW397 := n4_; have GE397 := n5_; have NB391_397 := n6_; have NB397_391 := n7_; clear n0_ n1_ n2_ n3_ n4_ n5_ n6_ n7_; clear hb hbox hg; have hnb149 := NB397_391.out; have hnc149 := NB391_397.out; have hcz150_0 : w148.cell? ⟨gb397, 0, none⟩ = some (.bool false) := zJ BK397.out 0; have hcz150_1 : w148.cell? ⟨gb397, 1, none⟩ = some (.bool false) := zJ BK397.out 1; have hcz150_2 : w148.cell? ⟨gb397, 2, none⟩ = some (.int .i64 0) := zJ BK397.out 2; have hfz150_0 := zI BK397.out 0; have hfz150_1 := zI BK397.out 1; have hfz150_2 := zI BK397.out 2))
             go_roundg k1
             case measure => have := HK1.out; omega
             case rel => exact ⟨((((rd_T36 t393 x16_1).f2) == 0)), ((((rd_T36 t393 x16_1).f2) != 0)), (true), (true), (wrap64 (x16_1 + 1)), (by first | rfl | (simp; done) | (simp [*]; done)), (by first | rfl | (simp; done) | (simp [*]; done)), (by first | rfl | (simp; done) | (simp [*]; done)), (by first | rfl | (simp; done) | (simp [*]; done)), (by first | rfl | (simp; done) | (simp [*]; done)), H', ⟨by have := HK1.out; omega⟩, ⟨by (with_reducible repeat (first | apply Kd.R_alloc | apply Kd.R_drewN | apply Kd.R_drew)); exact Kd.R_mono (Kd.R_far (p := ⟨gb397, 2, none⟩) (Kd.R_far (p := ⟨gb397, 1, none⟩) (Kd.R_far (p := ⟨gb397, 0, none⟩) (Kd.R_mono HO_14.out (fun k_ hk => (⟨hk, hk.2⟩ : _ ∧ k_ ≠ gb397))) (fun _ hk => hk.2) (.bool false)) (fun _ hk => hk.2) (.bool true)) (fun _ hk => hk.2) (.int .i64 ((rd_T36 t393 x16_1).f2))) (fun _ hk => trivial)⟩, ⟨by (with_reducible repeat (first | refine zC ?_ _ | refine zG ?_ | refine zD ?_ _)); refine zL ?_ NB391_397.out _; (with_reducible repeat (first | refine zC ?_ _ | refine zG ?_ | refine zD ?_ _)); refine zL ?_ NB391_397.out _; (with_reducible repeat (first | refine zC ?_ _ | refine zG ?_ | refine zD ?_ _)); refine zL ?_ NB391_397.out _; (with_reducible repeat (first | refine zC ?_ _ | refine zG ?_ | refine zD ?_ _)); exact BK391.out⟩, ⟨by repeat (first | (with_reducible first | exact HB.out | apply zF | apply zA | apply zE | refine zH ?_ GE391.out | refine zH ?_ GE397.out) | exact HB.out)⟩⟩
            ·
             replace c147 := Bool.eq_false_iff.mpr c147
             subst c147
             have H1 : (if false = true then (zW.l0 k1 (((rd_T36 t393 x16_1).f2) == 0) (((rd_T36 t393 x16_1).f2) != 0) true true t393 (t393.length : Int) (wrap64 (x16_1 + 1))) else (zW.l0 k1 (((rd_T36 t393 x16_1).f2) == 0) (((rd_T36 t393 x16_1).f2) != 0) true false t393 (t393.length : Int) (wrap64 (x16_1 + 1)))) = some (r1, r2) := by rw [if_neg (show ¬ (false = true) by decide)] at H; exact H
             clear H
             have H := H1
             clear H1
             have H1 : (zW.l0 k1 (((rd_T36 t393 x16_1).f2) == 0) (((rd_T36 t393 x16_1).f2) != 0) true false t393 (t393.length : Int) (wrap64 (x16_1 + 1))) = some (r1, r2) := by rw [if_neg (show ¬ (false = true) by decide)] at H; exact H
             clear H
             have H := H1
             clear H1
             have H' := zB.mk H
             clear H
             have p396 : 0 ≤ (x16_1 : Int) := of_decide_eq_true (by first | (with_reducible assumption) | assumption)
             have q396 : x16_1 < (t393.length : Int) := of_decide_eq_true (by first | (with_reducible assumption) | assumption)
             obtain ⟨ad396, e396, hx396_0, hx396_1, hx396_2⟩ := at_T36 (Kd.R_reads' HO_14.out).2.2 x16_1 p396 q396
             (try rw [← Nbq95.out] at hx396_0)
             (try rw [← Nbq128.out] at hx396_0)
             (try rw [← Nbq95.out] at hx396_1)
             (try rw [← Nbq128.out] at hx396_1)
             cases e396
             replace p396 := eq_true p396
             replace q396 := eq_true q396
             go_wp2_with (first | ((with_reducible refine zP (N := 9) rfl ?_); refine zO ?hg (N := 9) ?hd (cs := #[.bool false, .bool false, .int .i64 0]) (t := 36) ?hr ?_; (case hd => rfl); (case hg => rfl); (case hr => first | (go_simp; done) | (go_simp; rfl)); intro gb397 hg w151 hbox hb; have n0_ := zB.mk (Kd.R_below (Kd.R_elderB (by (with_reducible repeat (first | apply Kd.R_alloc | apply Kd.R_drewN | apply Kd.R_drew)); exact HO_14.out) gb397 (Nat.le_of_eq hg.symm)) hb); have n1_ := zB.mk (zN (g := gb391) (o := .cells #[.int .i64 a0_0, .int .i64 a0_1, .slice A0_2 l0_2.length c0_2] 28 (0, 0)) (by (with_reducible repeat (first | refine zC ?_ _ | refine zG ?_ | refine zD ?_ _)); exact BK391.out) hb); have n2_ := zB.mk (zK (by repeat (first | (with_reducible first | exact HB.out | apply zF | apply zA | apply zE | refine zH ?_ GE391.out) | exact HB.out)) hb); have n3_ := zB.mk (hbox); have n4_ := zB.mk ((by rw [hg]; exact (zM (by repeat (first | (with_reducible first | exact HB.out | apply zF | apply zA | apply zE | refine zH ?_ GE391.out) | exact HB.out))) : w.heap.size ≤ gb397)); have n5_ := n4_; have n6_ := zB.mk ((by rw [hg]; exact Nat.ne_of_lt (zQ (by (with_reducible repeat (first | refine zC ?_ _ | refine zG ?_ | refine zD ?_ _)); exact BK391.out)) : gb391 ≠ gb397)); have n7_ := zB.mk n6_.out.symm; clear HO_14; clear BK391; clear HB; have HO_14 := n0_; have BK391 := n1_; have HB := n2_; have BK397 := n3_; have GW397 := n4_; have GE397 := n5_; have NB391_397 := n6_; have NB397_391 := n7_; clear n0_ n1_ n2_ n3_ n4_ n5_ n6_ n7_; clear hb hbox hg; have hnb152 := NB397_391.out; have hnc152 := NB391_397.out; have hcz153_0 : w151.cell? ⟨gb397, 0, none⟩ = some (.bool false) := zJ BK397.out 0; have hcz153_1 : w151.cell? ⟨gb397, 1, none⟩ = some (.bool false) := zJ BK397.out 1; have hcz153_2 : w151.cell? ⟨gb397, 2, none⟩ = some (.int .i64 0) := zJ BK397.out 2; have hfz153_0 := zI BK397.out 0; have hfz153_1 := zI BK397.out 1; have hfz153_2 := zI BK397.out 2))
             go_roundg k1
             case measure => have := HK1.out; omega
             case rel => exact ⟨((((rd_T36 t393 x16_1).f2) == 0)), ((((rd_T36 t393 x16_1).f2) != 0)), (true), (false), (wrap64 (x16_1 + 1)), (by first | rfl | (simp; done) | (simp [*]; done)), (by first | rfl | (simp; done) | (simp [*]; done)), (by first | rfl | (simp; done) | (simp [*]; done)), (by first | rfl | (simp; done) | (simp [*]; done)), (by first | rfl | (simp; done) | (simp [*]; done)), H', ⟨by have := HK1.out; omega⟩, ⟨by (with_reducible repeat (first | apply Kd.R_alloc | apply Kd.R_drewN | apply Kd.R_drew)); exact Kd.R_mono (Kd.R_far (p := ⟨gb397, 2, none⟩) (Kd.R_far (p := ⟨gb397, 1, none⟩) (Kd.R_far (p := ⟨gb397, 0, none⟩) (Kd.R_mono HO_14.out (fun k_ hk => (⟨hk, hk.2⟩ : _ ∧ k_ ≠ gb397))) (fun _ hk => hk.2) (.bool false)) (fun _ hk => hk.2) (.bool true)) (fun _ hk => hk.2) (.int .i64 ((rd_T36 t393 x16_1).f2))) (fun _ hk => trivial)⟩, ⟨by (with_reducible repeat (first | refine zC ?_ _ | refine zG ?_ | refine zD ?_ _)); refine zL ?_ NB391_397.out _; (with_reducible repeat (first | refine zC ?_ _ | refine zG ?_ | refine zD ?_ _)); refine zL ?_ NB391_397.out _; (with_reducible repeat (first | refine zC ?_ _ | refine zG ?_ | refine zD ?_ _)); refine zL ?_ NB391_397.out _; (with_reducible repeat (first | refine zC ?_ _ | refine zG ?_ | refine zD ?_ _)); exact BK391.out⟩, ⟨by repeat (first | (with_reducible first | exact HB.out | apply zF | apply zA | apply zE | refine zH ?_ GE391.out | refine zH ?_ GE397.out) | exact HB.out)⟩⟩
           ·
            replace c146 := Bool.eq_false_iff.mpr c146
            subst c146
            have H1 : (if false = true then (if x7_1 = true then (zW.l0 k1 (((rd_T36 t393 x16_1).f2) == 0) (((rd_T36 t393 x16_1).f2) != 0) (!(true)) true t393 (t393.length : Int) (wrap64 (x16_1 + 1))) else (zW.l0 k1 (((rd_T36 t393 x16_1).f2) == 0) (((rd_T36 t393 x16_1).f2) != 0) (!(true)) true t393 (t393.length : Int) (wrap64 (x16_1 + 1)))) else (if x7_1 = true then (zW.l0 k1 (((rd_T36 t393 x16_1).f2) == 0) (((rd_T36 t393 x16_1).f2) != 0) false true t393 (t393.length : Int) (wrap64 (x16_1 + 1))) else (zW.l0 k1 (((rd_T36 t393 x16_1).f2) == 0) (((rd_T36 t393 x16_1).f2) != 0) false false t393 (t393.length : Int) (wrap64 (x16_1 + 1))))) = some (r1, r2) := by rw [if_neg (show ¬ (false = true) by decide)] at H; exact H
            clear H
            have H := H1
            clear H1
            have H1 : (if x7_1 = true then (zW.l0 k1 (((rd_T36 t393 x16_1).f2) == 0) (((rd_T36 t393 x16_1).f2) != 0) false true t393 (t393.length : Int) (wrap64 (x16_1 + 1))) else (zW.l0 k1 (((rd_T36 t393 x16_1).f2) == 0) (((rd_T36 t393 x16_1).f2) != 0) false false t393 (t393.length : Int) (wrap64 (x16_1 + 1)))) = some (r1, r2) := by rw [if_neg (show ¬ (false = true) by decide)] at H; exact H
            clear H
            have H := H1
            clear H1
            by_cases c154 : x7_1 = true
            ·
             subst c154
             have H1 : (zW.l0 k1 (((rd_T36 t393 x16_1).f2) == 0) (((rd_T36 t393 x16_1).f2) != 0) false true t393 (t393.length : Int) (wrap64 (x16_1 + 1))) = some (r1, r2) := by rw [if_pos rfl] at H; exact H
             clear H
             have H := H1
             clear H1
             have H' := zB.mk H
             clear H
             have p396 : 0 ≤ (x16_1 : Int) := of_decide_eq_true (by first | (with_reducible assumption) | assumption)
             have q396 : x16_1 < (t393.length : Int) := of_decide_eq_true (by first | (with_reducible assumption) | assumption)
             obtain ⟨ad396, e396, hx396_0, hx396_1, hx396_2⟩ := at_T36 (Kd.R_reads' HO_14.out).2.2 x16_1 p396 q396
             (try rw [← Nbq95.out] at hx396_0)
             (try rw [← Nbq128.out] at hx396_0)
             (try rw [← Nbq95.out] at hx396_1)
             (try rw [← Nbq128.out] at hx396_1)
             cases e396
             replace p396 := eq_true p396
             replace q396 := eq_true q396
             go_wp2_with (first | ((with_reducible refine zP (N := 9) rfl ?_); refine zO ?hg (N := 9) ?hd (cs := #[.bool false, .bool false, .int .i64 0]) (t := 36) ?hr ?_; (case hd => rfl); (case hg => rfl); (case hr => first | (go_simp; done) | (go_simp; rfl)); intro gb397 hg w155 hbox hb; have n0_ := zB.mk (Kd.R_below (Kd.R_elderB (by (with_reducible repeat (first | apply Kd.R_alloc | apply Kd.R_drewN | apply Kd.R_drew)); exact HO_14.out) gb397 (Nat.le_of_eq hg.symm)) hb); have n1_ := zB.mk (zN (g := gb391) (o := .cells #[.int .i64 a0_0, .int .i64 a0_1, .slice A0_2 l0_2.length c0_2] 28 (0, 0)) (by (with_reducible repeat (first | refine zC ?_ _ | refine zG ?_ | refine zD ?_ _)); exact BK391.out) hb); have n2_ := zB.mk (zK (by repeat (first | (with_reducible first | exact HB.out | apply zF | apply zA | apply zE | refine zH ?_ GE391.out) | exact HB.out)) hb); have n3_ := zB.mk (hbox); have n4_ := zB.mk ((by rw [hg]; exact (zM (by repeat (first | (with_reducible first | exact HB.out | apply zF | apply zA | apply zE | refine zH ?_ GE391.out) | exact HB.out))) : w.heap.size ≤ gb397)); have n5_ := n4_; have n6_ := zB.mk ((by rw [hg]; exact Nat.ne_of_lt (zQ (by (with_reducible repeat (first | refine zC ?_ _ | refine zG ?_ | refine zD ?_ _)); exact BK391.out)) : gb391 ≠ gb397)); have n7_ := zB.mk n6_.out.symm; clear HO_14; clear BK391; clear HB; have HO_14 := n0_; have BK391 := n1_; have HB := n2_; have BK397 := n3_; have GW397 := n4_; have GE397 := n5_; have NB391_397 := n6_; have NB397_391 := n7_; clear n0_ n1_ n2_ n3_ n4_ n5_ n6_ n7_; clear hb hbox hg; have hnb156 := NB397_391.out; have hnc156 := NB391_397.out; have hcz157_0 : w155.cell? ⟨gb397, 0, none⟩ = some (.bool false) := zJ BK397.out 0; have hcz157_1 : w155.cell? ⟨gb397, 1, none⟩ = some (.bool false) := zJ BK397.out 1; have hcz157_2 : w155.cell? ⟨gb397, 2, none⟩ = some (.int .i64 0) := zJ BK397.out 2; have hfz157_0 := zI BK397.out 0; have hfz157_1 := zI BK397.out 1; have hfz157_2 := zI BK397.out 2))
             go_roundg k1
             case measure => have := HK1.out; omega
             case rel => exact ⟨((((rd_T36 t393 x16_1).f2) == 0)), ((((rd_T36 t393 x16_1).f2) != 0)), (false), (true), (wrap64 (x16_1 + 1)), (by first | rfl | (simp; done) | (simp [*]; done)), (by first | rfl | (simp; done) | (simp [*]; done)), (by first | rfl | (simp; done) | (simp [*]; done)), (by first | rfl | (simp; done) | (simp [*]; done)), (by first | rfl | (simp; done) | (simp [*]; done)), H', ⟨by have := HK1.out; omega⟩, ⟨by (with_reducible repeat (first | apply Kd.R_alloc | apply Kd.R_drewN | apply Kd.R_drew)); exact Kd.R_mono (Kd.R_far (p := ⟨gb397, 2, none⟩) (Kd.R_far (p := ⟨gb397, 1, none⟩) (Kd.R_far (p := ⟨gb397, 0, none⟩) (Kd.R_mono HO_14.out (fun k_ hk => (⟨hk, hk.2⟩ : _ ∧ k_ ≠ gb397))) (fun _ hk => hk.2) (.bool false)) (fun _ hk => hk.2) (.bool true)) (fun _ hk => hk.2) (.int .i64 ((rd_T36 t393 x16_1).f2))) (fun _ hk => trivial)⟩, ⟨by (with_reducible repeat (first | refine zC ?_ _ | refine zG ?_ | refine zD ?_ _)); refine zL ?_ NB391_397.out _; (with_reducible repeat (first | refine zC ?_ _ | refine zG ?_ | refine zD ?_ _)); refine zL ?_ NB391_397.out _; (with_reducible repeat (first | refine zC ?_ _ | refine zG ?_ | refine zD ?_ _)); refine zL ?_ NB391_397.out _; (with_reducible repeat (first | refine zC ?_ _ | refine zG ?_ | refine zD ?_ _)); exact BK391.out⟩, ⟨by repeat (first | (with_reducible first | exact HB.out | apply zF | apply zA | apply zE | refine zH ?_ GE391.out | refine zH ?_ GE397.out) | exact HB.out)⟩⟩
            ·
             replace c154 := Bool.eq_false_iff.mpr c154
             subst c154
             have H1 : (zW.l0 k1 (((rd_T36 t393 x16_1).f2) == 0) (((rd_T36 t393 x16_1).f2) != 0) false false t393 (t393.length : Int) (wrap64 (x16_1 + 1))) = some (r1, r2) := by rw [if_neg (show ¬ (false = true) by decide)] at H; exact H
             clear H
             have H := H1
             clear H1
             have H' := zB.mk H
             clear H
             have p396 : 0 ≤ (x16_1 : Int) := of_decide_eq_true (by first | (with_reducible assumption) | assumption)
             have q396 : x16_1 < (t393.length : Int) := of_decide_eq_true (by first | (with_reducible assumption) | assumption)
             obtain ⟨ad396, e396, hx396_0, hx396_1, hx396_2⟩ := at_T36 (Kd.R_reads' HO_14.out).2.2 x16_1 p396 q396
             (try rw [← Nbq95.out] at hx396_0)
             (try rw [← Nbq128.out] at hx396_0)
             (try rw [← Nbq95.out] at hx396_1)
             (try rw [← Nbq128.out] at hx396_1)
             cases e396
             replace p396 := eq_true p396
             replace q396 := eq_true q396
             go_wp2_with (first | ((with_reducible refine zP (N := 9) rfl ?_); refine zO ?hg (N := 9) ?hd (cs := #[.bool false, .bool false, .int .i64 0]) (t := 36) ?hr ?_; (case hd => rfl); (case hg => rfl); (case hr => first | (go_simp; done) | (go_simp; rfl)); intro gb397 hg w158 hbox hb; have n0_ := zB.mk (Kd.R_below (Kd.R_elderB (by (with_reducible repeat (first | apply Kd.R_alloc | apply Kd.R_drewN | apply Kd.R_drew)); exact HO_14.out) gb397 (Nat.le_of_eq hg.symm)) hb); have n1_ := zB.mk (zN (g := gb391) (o := .cells #[.int .i64 a0_0, .int .i64 a0_1, .slice A0_2 l0_2.length c0_2] 28 (0, 0)) (by (with_reducible repeat (first | refine zC ?_ _ | refine zG ?_ | refine zD ?_ _)); exact BK391.out) hb); have n2_ := zB.mk (zK (by repeat (first | (with_reducible first | exact HB.out | apply zF | apply zA | apply zE | refine zH ?_ GE391.out) | exact HB.out)) hb); have n3_ := zB.mk (hbox); have n4_ := zB.mk ((by rw [hg]; exact (zM (by repeat (first | (with_reducible first | exact HB.out | apply zF | apply zA | apply zE | refine zH ?_ GE391.out) | exact HB.out))) : w.heap.size ≤ gb397)); have n5_ := n4_; have n6_ := zB.mk ((by rw [hg]; exact Nat.ne_of_lt (zQ (by (with_reducible repeat (first | refine zC ?_ _ | refine zG ?_ | refine zD ?_ _)); exact BK391.out)) : gb391 ≠ gb397)); have n7_ := zB.mk n6_.out.symm; clear HO_14; clear BK391; clear HB; have HO_14 := n0_; have BK391 := n1_; have HB := n2_; have BK397 := n3_; have GW397 := n4_; have GE397 := n5_; have NB391_397 := n6_; have NB397_391 := n7_; clear n0_ n1_ n2_ n3_ n4_ n5_ n6_ n7_; clear hb hbox hg; have hnb159 := NB397_391.out; have hnc159 := NB391_397.out; have hcz160_0 : w158.cell? ⟨gb397, 0, none⟩ = some (.bool false) := zJ BK397.out 0; have hcz160_1 : w158.cell? ⟨gb397, 1, none⟩ = some (.bool false) := zJ BK397.out 1; have hcz160_2 : w158.cell? ⟨gb397, 2, none⟩ = some (.int .i64 0) := zJ BK397.out 2; have hfz160_0 := zI BK397.out 0; have hfz160_1 := zI BK397.out 1; have hfz160_2 := zI BK397.out 2))
             go_roundg k1
             case measure => have := HK1.out; omega
             case rel => exact ⟨((((rd_T36 t393 x16_1).f2) == 0)), ((((rd_T36 t393 x16_1).f2) != 0)), (false), (false), (wrap64 (x16_1 + 1)), (by first | rfl | (simp; done) | (simp [*]; done)), (by first | rfl | (simp; done) | (simp [*]; done)), (by first | rfl | (simp; done) | (simp [*]; done)), (by first | rfl | (simp; done) | (simp [*]; done)), (by first | rfl | (simp; done) | (simp [*]; done)), H', ⟨by have := HK1.out; omega⟩, ⟨by (with_reducible repeat (first | apply Kd.R_alloc | apply Kd.R_drewN | apply Kd.R_drew)); exact Kd.R_mono (Kd.R_far (p := ⟨gb397, 2, none⟩) (Kd.R_far (p := ⟨gb397, 1, none⟩) (Kd.R_far (p := ⟨gb397, 0, none⟩) (Kd.R_mono HO_14.out (fun k_ hk => (⟨hk, hk.2⟩ : _ ∧ k_ ≠ gb397))) (fun _ hk => hk.2) (.bool false)) (fun _ hk => hk.2) (.bool true)) (fun _ hk => hk.2) (.int .i64 ((rd_T36 t393 x16_1).f2))) (fun _ hk => trivial)⟩, ⟨by (with_reducible repeat (first | refine zC ?_ _ | refine zG ?_ | refine zD ?_ _)); refine zL ?_ NB391_397.out _; (with_reducible repeat (first | refine zC ?_ _ | refine zG ?_ | refine zD ?_ _)); refine zL ?_ NB391_397.out _; (with_reducible repeat (first | refine zC ?_ _ | refine zG ?_ | refine zD ?_ _)); refine zL ?_ NB391_397.out _; (with_reducible repeat (first | refine zC ?_ _ | refine zG ?_ | refine zD ?_ _)); exact BK391.out⟩, ⟨by repeat (first | (with_reducible first | exact HB.out | apply zF | apply zA | apply zE | refine zH ?_ GE391.out | refine zH ?_ GE397.out) | exact HB.out)⟩⟩
         ·
          replace c129 := Bool.eq_false_iff.mpr c129
          subst c129
          have H1 : (if x5_1 = true then (if x6_1 = true then (if x7_1 = true then (zW.l0 k1 false true true true t393 (t393.length : Int) (wrap64 (x16_1 + 1))) else (if false = true then (zW.l0 k1 false true true false t393 (t393.length : Int) (wrap64 (x16_1 + 1))) else (zW.l0 k1 false true true false t393 (t393.length : Int) (wrap64 (x16_1 + 1))))) else (if false = true then (if x7_1 = true then (zW.l0 k1 false true (!(false)) true t393 (t393.length : Int) (wrap64 (x16_1 + 1))) else (zW.l0 k1 false true (!(false)) false t393 (t393.length : Int) (wrap64 (x16_1 + 1)))) else (if x7_1 = true then (zW.l0 k1 false true false true t393 (t393.length : Int) (wrap64 (x16_1 + 1))) else (zW.l0 k1 false true false false t393 (t393.length : Int) (wrap64 (x16_1 + 1)))))) else (if x6_1 = true then (if x7_1 = true then (zW.l0 k1 false false true true t393 (t393.length : Int) (wrap64 (x16_1 + 1))) else (if false = true then (zW.l0 k1 false false true false t393 (t393.length : Int) (wrap64 (x16_1 + 1))) else (zW.l0 k1 false false true false t393 (t393.length : Int) (wrap64 (x16_1 + 1))))) else (if false = true then (if x7_1 = true then (zW.l0 k1 false false (!(false)) true t393 (t393.length : Int) (wrap64 (x16_1 + 1))) else (zW.l0 k1 false false (!(false)) false t393 (t393.length : Int) (wrap64 (x16_1 + 1)))) else (if x7_1 = true then (zW.l0 k1 false false false true t393 (t393.length : Int) (wrap64 (x16_1 + 1))) else (zW.l0 k1 false false false false t393 (t393.length : Int) (wrap64 (x16_1 + 1))))))) = some (r1, r2) := by rw [if_neg (show ¬ (false = true) by decide)] at H; exact H
          clear H
          have H := H1
          clear H1
          by_cases c161 : x5_1 = true
          ·
           subst c161
           have H1 : (if x6_1 = true then (if x7_1 = true then (zW.l0 k1 false true true true t393 (t393.length : Int) (wrap64 (x16_1 + 1))) else (if false = true then (zW.l0 k1 false true true false t393 (t393.length : Int) (wrap64 (x16_1 + 1))) else (zW.l0 k1 false true true false t393 (t393.length : Int) (wrap64 (x16_1 + 1))))) else (if false = true then (if x7_1 = true then (zW.l0 k1 false true (!(false)) true t393 (t393.length : Int) (wrap64 (x16_1 + 1))) else (zW.l0 k1 false true (!(false)) false t393 (t393.length : Int) (wrap64 (x16_1 + 1)))) else (if x7_1 = true then (zW.l0 k1 false true false true t393 (t393.length : Int) (wrap64 (x16_1 + 1))) else (zW.l0 k1 false true false false t393 (t393.length : Int) (wrap64 (x16_1 + 1)))))) = some (r1, r2) := by rw [if_pos rfl] at H; exact H
           clear H
           have H := H1
           clear H1
           by_cases c162 : x6_1 = true
           ·
            subst c162
            have H1 : (if x7_1 = true then (zW.l0 k1 false true true true t393 (t393.length : Int) (wrap64 (x16_1 + 1))) else (if false = true then (zW.l0 k1 false true true false t393 (t393.length : Int) (wrap64 (x16_1 + 1))) else (zW.l0 k1 false true true false t393 (t393.length : Int) (wrap64 (x16_1 + 1))))) = some (r1, r2) := by rw [if_pos rfl] at H; exact H
            clear H
            have H := H1
            clear H1
            by_cases c163 : x7_1 = true
            ·
             subst c163
             have H1 : (zW.l0 k1 false true true true t393 (t393.length : Int) (wrap64 (x16_1 + 1))) = some (r1, r2) := by rw [if_pos rfl] at H; exact H
             clear H
             have H := H1
             clear H1
             have H' := zB.mk H
             clear H
             have p396 : 0 ≤ (x16_1 : Int) := of_decide_eq_true (by first | (with_reducible assumption) | assumption)
             have q396 : x16_1 < (t393.length : Int) := of_decide_eq_true (by first | (with_reducible assumption) | assumption)
             obtain ⟨ad396, e396, hx396_0, hx396_1, hx396_2⟩ := at_T36 (Kd.R_reads' HO_14.out).2.2 x16_1 p396 q396
             (try rw [← Nbq95.out] at hx396_0)
             (try rw [← Nbq128.out] at hx396_0)
             (try rw [← Nbq95.out] at hx396_1)
             (try rw [← Nbq128.out] at hx396_1)
             cases e396
             replace p396 := eq_true p396
             replace q396 := eq_true q396
             go_wp2_with (first | ((with_reducible refine zP (N := 9) rfl ?_); refine zO ?hg (N := 9) ?hd (cs := #[.bool false, .bool false, .int .i64 0]) (t := 36) ?hr ?_; (case hd => rfl); (case hg => rfl); (case hr => first | (go_simp; done) | (go_simp; rfl)); intro gb397 hg w164 hbox hb; have n0_ := zB.mk (Kd.R_below (Kd.R_elderB (by (with_reducible repeat (first | apply Kd.R_alloc | apply Kd.R_drewN | apply Kd.R_drew)); exact HO_14.out) gb397 (Nat.le_of_eq hg.symm)) hb); have n1_ := zB.mk (zN (g := gb391) (o := .cells #[.int .i64 a0_0, .int .i64 a0_1, .slice A0_2 l0_2.length c0_2] 28 (0, 0)) (by (with_reducible repeat (first | refine zC ?_ _ | refine zG ?_ | refine zD ?_ _)); exact BK391.out) hb); have n2_ := zB.mk (zK (by repeat (first | (with_reducible first | exact HB.out | apply zF | apply zA | apply zE | refine zH ?_ GE391.out) | exact HB.out)) hb); have n3_ := zB.mk (hbox); have n4_ := zB.mk ((by rw [hg]; exact (zM (by repeat (first | (with_reducible first | exact HB.out | apply zF | apply zA | apply zE | refine zH ?_ GE391.out) | exact HB.out))) : w.heap.size ≤ gb397)); have n5_ := n4_; have n6_ := zB.mk ((by rw [hg]; exact Nat.ne_of_lt (zQ (by (with_reducible repeat (first | refine zC ?_ _ | refine zG ?_ | refine zD ?_ _)); exact BK391.out)) : gb391 ≠ gb397)); have n7_ := zB.mk n6_.out.symm; clear HO_14; clear BK391; clear HB; have HO_14 := n0_; have BK391 := n1_; have HB := n2_; have BK397 := n3_; have GW397 := n4_; have GE397 := n5_; have NB391_397 := n6_; have NB397_391 := n7_; clear n0_ n1_ n2_ n3_ n4_ n5_ n6_ n7_; clear hb hbox hg; have hnb165 := NB397_391.out; have hnc165 := NB391_397.out; have hcz166_0 : w164.cell? ⟨gb397, 0, none⟩ = some (.bool false) := zJ BK397.out 0; have hcz166_1 : w164.cell? ⟨gb397, 1, none⟩ = some (.bool false) := zJ BK397.out 1; have hcz166_2 : w164.cell? ⟨gb397, 2, none⟩ = some (.int .i64 0) := zJ BK397.out 2; have hfz166_0 := zI BK397.out 0; have hfz166_1 := zI BK397.out 1; have hfz166_2 := zI BK397.out 2))
             go_roundg k1
             case measure => have := HK1.out; omega
             case rel => exact ⟨(false), (true), (true), (true), (wrap64 (x16_1 + 1)), (by first | rfl | (simp; done) | (simp [*]; done)), (by first | rfl | (simp; done) | (simp [*]; done)), (by first | rfl | (simp; done) | (simp [*]; done)), (by first | rfl | (simp; done) | (simp [*]; done)), (by first | rfl | (simp; done) | (simp [*]; done)), H', ⟨by have := HK1.out; omega⟩, ⟨by (with_reducible repeat (first | apply Kd.R_alloc | apply Kd.R_drewN | apply Kd.R_drew)); exact Kd.R_mono (Kd.R_far (p := ⟨gb397, 2, none⟩) (Kd.R_far (p := ⟨gb397, 1, none⟩) (Kd.R_far (p := ⟨gb397, 0, none⟩) (Kd.R_mono HO_14.out (fun k_ hk => (⟨hk, hk.2⟩ : _ ∧ k_ ≠ gb397))) (fun _ hk => hk.2) (.bool false)) (fun _ hk => hk.2) (.bool false)) (fun _ hk => hk.2) (.int .i64 ((rd_T36 t393 x16_1).f2))) (fun _ hk => trivial)⟩, ⟨by (with_reducible repeat (first | refine zC ?_ _ | refine zG ?_ | refine zD ?_ _)); refine zL ?_ NB391_397.out _; (with_reducible repeat (first | refine zC ?_ _ | refine zG ?_ | refine zD ?_ _)); refine zL ?_ NB391_397.out _; (with_reducible repeat (first | refine zC ?_ _ | refine zG ?_ | refine zD ?_ _)); refine zL ?_ NB391_397.out _; (with_reducible repeat (first | refine zC ?_ _ | refine zG ?_ | refine zD ?_ _)); exact BK391.out⟩, ⟨by repeat (first | (with_reducible first | exact HB.out | apply zF | apply zA | apply zE | refine zH ?_ GE391.out | refine zH ?_ GE397.out) | exact HB.out)⟩⟩
            ·
             replace c163 := Bool.eq_false_iff.mpr c163
             subst c163
             have H1 : (if false = true then (zW.l0 k1 false true true false t393 (t393.length : Int) (wrap64 (x16_1 + 1))) else (zW.l0 k1 false true true false t393 (t393.length : Int) (wrap64 (x16_1 + 1)))) = some (r1, r2) := by rw [if_neg (show ¬ (false = true) by decide)] at H; exact H
             clear H
             have H := H1
             clear H1
             have H1 : (zW.l0 k1 false true true false t393 (t393.length : Int) (wrap64 (x16_1 + 1))) = some (r1, r2) := by rw [if_neg (show ¬ (false = true) by decide)] at H; exact H
             clear H
             have H := H1
             clear H1
             have H' := zB.mk H
             clear H
             have p396 : 0 ≤ (x16_1 : Int) := of_decide_eq_true (by first | (with_reducible assumption) | assumption)
             have q396 : x16_1 < (t393.length : Int) := of_decide_eq_true (by first | (with_reducible assumption) | assumption)
             obtain ⟨ad396, e396, hx396_0, hx396_1, hx396_2⟩ := at_T36 (Kd.R_reads' HO_14.out).2.2 x16_1 p396 q396
             (try rw [← Nbq95.out] at hx396_0)
             (try rw [← Nbq128.out] at hx396_0)
             (try rw [← Nbq95.out] at hx396_1)
             (try rw [← Nbq128.out] at hx396_1)
             cases e396
             replace p396 := eq_true p396
             replace q396 := eq_true q396
             go_wp2_with (first | ((with_reducible refine zP (N := 9) rfl ?_); refine zO ?hg (N := 9) ?hd (cs := #[.bool false, .bool false, .int .i64 0]) (t := 36) ?hr ?_; (case hd => rfl); (case hg => rfl); (case hr => first | (go_simp; done) | (go_simp; rfl)); intro gb397 hg w167 hbox hb; have n0_ := zB.mk (Kd.R_below (Kd.R_elderB (by (with_reducible repeat (first | apply Kd.R_alloc | apply Kd.R_drewN | apply Kd.R_drew)); exact HO_14.out) gb397 (Nat.le_of_eq hg.symm)) hb); have n1_ := zB.mk (zN (g := gb391) (o := .cells #[.int .i64 a0_0, .int .i64 a0_1, .slice A0_2 l0_2.length c0_2] 28 (0, 0)) (by (with_reducible repeat (first | refine zC ?_ _ | refine zG ?_ | refine zD ?_ _)); exact BK391.out) hb); have n2_ := zB.mk (zK (by repeat (first | (with_reducible first | exact HB.out | apply zF | apply zA | apply zE | refine zH ?_ GE391.out) | exact HB.out)) hb); have n3_ := zB.mk (hbox); have n4_ := zB.mk ((by rw [hg]; exact (zM (by repeat (first | (with_reducible first | exact HB.out | apply zF | apply zA | apply zE | refine zH ?_ GE391.out) | exact HB.out))) : w.heap.size ≤ gb397)); have n5_ := n4_; have n6_ := zB.mk ((by rw [hg]; exact Nat.ne_of_lt (zQ (by (with_reducible repeat (first | refine zC ?_ _ | refine zG ?_ | refine zD ?_ _)); exact BK391.out)) : gb391 ≠ gb397)); have n7_ := zB.mk n6_.out.symm; clear HO_14; clear BK391; clear HB; have HO_14 := n0_; have BK391 := n1_; have HB := n2_; have BK397 := n3_; have GW397 := n4_; have GE397 := n5_; have NB391_397 := n6_; have NB397_391 := n7_; clear n0_ n1_ n2_ n3_ n4_ n5_ n6_ n7_; clear hb hbox hg; have hnb168 := NB397_391.out; have hnc168 := NB391_397.out; have hcz169_0 : w167.cell? ⟨gb397, 0, none⟩ = some (.bool false) := zJ BK397.out 0; have hcz169_1 : w167.cell? ⟨gb397, 1, none⟩ = some (.bool false) := zJ BK397.out 1; have hcz169_2 : w167.cell? ⟨gb397, 2, none⟩ = some (.int .i64 0) := zJ BK397.out 2; have hfz169_0 := zI BK397.out 0; have hfz169_1 := zI BK397.out 1; have hfz169_2 := zI BK397.out 2))
             go_roundg k1
             case measure => have := HK1.out; omega
             case rel => exact ⟨(false), (true), (true), (false), (wrap64 (x16_1 + 1)), (by first | rfl | (simp; done) | (simp [*]; done)), (by first | rfl | (simp; done) | (simp [*]; done)), (by first | rfl | (simp; done) | (simp [*]; done)), (by first | rfl | (simp; done) | (simp [*]; done)), (by first | rfl | (simp; done) | (simp [*]; done)), H', ⟨by have := HK1.out; omega⟩, ⟨by (with_reducible repeat (first | apply Kd.R_alloc | apply Kd.R_drewN | apply Kd.R_drew)); exact Kd.R_mono (Kd.R_far (p := ⟨gb397, 2, none⟩) (Kd.R_far (p := ⟨gb397, 1, none⟩) (Kd.R_far (p := ⟨gb397, 0, none⟩) (Kd.R_mono HO_14.out (fun k_ hk => (⟨hk, hk.2⟩ : _ ∧ k_ ≠ gb397))) (fun _ hk => hk.2) (.bool false)) (fun _ hk => hk.2) (.bool false)) (fun _ hk => hk.2) (.int .i64 ((rd_T36 t393 x16_1).f2))) (fun _ hk => trivial)⟩, ⟨by (with_reducible repeat (first | refine zC ?_ _ | refine zG ?_ | refine zD ?_ _)); refine zL ?_ NB391_397.out _; (with_reducible repeat (first | refine zC ?_ _ | refine zG ?_ | refine zD ?_ _)); refine zL ?_ NB391_397.out _; (with_reducible repeat (first | refine zC ?_ _ | refine zG ?_ | refine zD ?_ _)); refine zL ?_ NB391_397.out _; (with_reducible repeat (first | refine zC ?_ _ | refine zG ?_ | refine zD ?_ _)); exact BK391.out⟩, ⟨by repeat (first | (with_reducible first | exact HB.out | apply zF | apply zA | apply zE | refine zH ?_ GE391.out | refine zH ?_ GE397.out) | exact HB.out)⟩⟩
           ·
            replace c162 := Bool.eq_false_iff.mpr c162
            subst c162
            have H1 : (if false = true then (if x7_1 = true then (zW.l0 k1 false true (!(false)) true t393 (t393.length : Int) (wrap64 (x16_1 + 1))) else (zW.l0 k1 false true (!(false)) false t393 (t393.length : Int) (wrap64 (x16_1 + 1)))) else (if x7_1 = true then (zW.l0 k1 false true false true t393 (t393.length : Int) (wrap64 (x16_1 + 1))) else (zW.l0 k1 false true false false t393 (t393.length : Int) (wrap64 (x16_1 + 1))))) = some (r1, r2) := by rw [if_neg (show ¬ (false = true) by decide)] at H; exact H
            clear H
            have H := H1
            clear H1
            have H1 : (if x7_1 = true then (zW.l0 k1 false true false true t393 (t393.length : Int) (wrap64 (x16_1 + 1))) else (zW.l0 k1 false true false false t393 (t393.length : Int) (wrap64 (x16_1 + 1)))) = some (r1, r2) := by rw [if_neg (show ¬ (false = true) by decide)] at H; exact H
            clear H
            have H := H1
            clear H1
            by_cases c170 : x7_1 = true
            ·
             subst c170
             have H1 : (zW.l0 k1 false true false true t393 (t393.length : Int) (wrap64 (x16_1 + 1))) = some (r1, r2) := by rw [if_pos rfl] at H; exact H
             clear H
             have H := H1
             clear H1
             have H' := zB.mk H
             clear H
             have p396 : 0 ≤ (x16_1 : Int) := of_decide_eq_true (by first | (with_reducible assumption) | assumption)
             have q396 : x16_1 < (t393.length : Int) := of_decide_eq_true (by first | (with_reducible assumption) | assumption)
             obtain ⟨ad396, e396, hx396_0, hx396_1, hx396_2⟩ := at_T36 (Kd.R_reads' HO_14.out).2.2 x16_1 p396 q396
             (try rw [← Nbq95.out] at hx396_0)
             (try rw [← Nbq128.out] at hx396_0)
             (try rw [← Nbq95.out] at hx396_1)
             (try rw [← Nbq128.out] at hx396_1)
             cases e396
             replace p396 := eq_true p396
             replace q396 := eq_true q396
             go_wp2_with (first | ((with_reducible refine zP (N := 9) rfl ?_); refine zO ?hg (N := 9) ?hd (cs := #[.bool false, .bool false, .int .i64 0]) (t := 36) ?hr ?_; (case hd => rfl); (case hg => rfl); (case hr => first | (go_simp; done) | (go_simp; rfl)); intro gb397 hg w171 hbox hb; have n0_ := zB.mk (Kd.R_below (Kd.R_elderB (by (with_reducible repeat (first | apply Kd.R_alloc | apply Kd.R_drewN | apply Kd.R_drew)); exact HO_14.out) gb397 (Nat.le_of_eq hg.symm)) hb); have n1_ := zB.mk (zN (g := gb391) (o := .cells #[.int .i64 a0_0, .int .i64 a0_1, .slice A0_2 l0_2.length c0_2] 28 (0, 0)) (by (with_reducible repeat (first | refine zC ?_ _ | refine zG ?_ | refine zD ?_ _)); exact BK391.out) hb); have n2_ := zB.mk (zK (by repeat (first | (with_reducible first | exact HB.out | apply zF | apply zA | apply zE | refine zH ?_ GE391.out) | exact HB.out)) hb); have n3_ := zB.mk (hbox); have n4_ := zB.mk ((by rw [hg]; exact (zM (by repeat (first | (with_reducible first | exact HB.out | apply zF | apply zA | apply zE | refine zH ?_ GE391.out) | exact HB.out))) : w.heap.size ≤ gb397)); have n5_ := n4_; have n6_ := zB.mk ((by rw [hg]; exact Nat.ne_of_lt (zQ (by (with_reducible repeat (first | refine zC ?_ _ | refine zG ?_ | refine zD ?_ _)); exact BK391.out)) : gb391 ≠ gb397)); have n7_ := zB.mk n6_.out.symm; clear HO_14; clear BK391; clear HB; have HO_14 := n0_; have BK391 := n1_; have HB := n2_; have BK397 := n3_; have GW397 := n4_; have GE397 := n5_; have NB391_397 := n6_; have NB397_391 := n7_; clear n0_ n1_ n2_ n3_ n4_ n5_ n6_ n7_; clear hb hbox hg; have hnb172 := NB397_391.out; have hnc172 := NB391_397.out; have hcz173_0 : w171.cell? ⟨gb397, 0, none⟩ = some (.bool false) := zJ BK397.out 0; have hcz173_1 : w171.cell? ⟨gb397, 1, none⟩ = some (.bool false) := zJ BK397.out 1; have hcz173_2 : w171.cell? ⟨gb397, 2, none⟩ = some (.int .i64 0) := zJ BK397.out 2; have hfz173_0 := zI BK397.out 0; have hfz173_1 := zI BK397.out 1; have hfz173_2 := zI BK397.out 2))
             go_roundg k1
             case measure => have := HK1.out; omega
             case rel => exact ⟨(false), (true), (false), (true), (wrap64 (x16_1 + 1)), (by first | rfl | (simp; done) | (simp [*]; done)), (by first | rfl | (simp; done) | (simp [*]; done)), (by first | rfl | (simp; done) | (simp [*]; done)), (by first | rfl | (simp; done) | (simp [*]; done)), (by first | rfl | (simp; done) | (simp [*]; done)), H', ⟨by have := HK1.out; omega⟩, ⟨by (with_reducible repeat (first | apply Kd.R_alloc | apply Kd.R_drewN | apply Kd.R_drew)); exact Kd.R_mono (Kd.R_far (p := ⟨gb397, 2, none⟩) (Kd.R_far (p := ⟨gb397, 1, none⟩) (Kd.R_far (p := ⟨gb397, 0, none⟩) (Kd.R_mono HO_14.out (fun k_ hk => (⟨hk, hk.2⟩ : _ ∧ k_ ≠ gb397))) (fun _ hk => hk.2) (.bool false)) (fun _ hk => hk.2) (.bool false)) (fun _ hk => hk.2) (.int .i64 ((rd_T36 t393 x16_1).f2))) (fun _ hk => trivial)⟩, ⟨by (with_reducible repeat (first | refine zC ?_ _ | refine zG ?_ | refine zD ?_ _)); refine zL ?_ NB391_397.out _; (with_reducible repeat (first | refine zC ?_ _ | refine zG ?_ | refine zD ?_ _)); refine zL ?_ NB391_397.out _; (with_reducible repeat (first | refine zC ?_ _ | refine zG ?_ | refine zD ?_ _)); refine zL ?_ NB391_397.out _; (with_reducible repeat (first | refine zC ?_ _ | refine zG ?_ | refine zD ?_ _)); exact BK391.out⟩, ⟨by repeat (first | (with_reducible first | exact HB.out | apply zF | apply zA | apply zE | refine zH ?_ GE391.out | refine zH ?_ GE397.out) | exact HB.out)⟩⟩
            ·
             replace c170 := Bool.eq_false_iff.mpr c170
             subst c170
             have H1 : (zW.l0 k1 false true false false t393 (t393.length : Int) (wrap64 (x16_1 + 1))) = some (r1, r2) := by rw [if_neg (show ¬ (false = true) by decide)] at H; exact H
             clear H
             have H := H1
             clear H1
             have H' := zB.mk H
             clear H
             have p396 : 0 ≤ (x16_1 : Int) := of_decide_eq_true (by first | (with_reducible assumption) | assumption)
             have q396 : x16_1 < (t393.length : Int) := of_decide_eq_true (by first | (with_reducible assumption) | assumption)
             obtain ⟨ad396, e396, hx396_0, hx396_1, hx396_2⟩ := at_T36 (Kd.R_reads' HO_14.out).2.2 x16_1 p396 q396
             (try rw [← Nbq95.out] at hx396_0)
             (try rw [← Nbq128.out] at hx396_0)
             (try rw [← Nbq95.out] at hx396_1)
             (try rw [← Nbq128.out] at hx396_1)
             cases e396
             replace p396 := eq_true p396
             replace q396 := eq_true q396
             go_wp2_with (first | ((with_reducible refine zP (N := 9) rfl ?_); refine zO ?hg (N := 9) ?hd (cs := #[.bool false, .bool false, .int .i64 0]) (t := 36) ?hr ?_; (case hd => rfl); (case hg => rfl); (case hr => first | (go_simp; done) | (go_simp; rfl)); intro gb397 hg w174 hbox hb; have n0_ := zB.mk (Kd.R_below (Kd.R_elderB (by (with_reducible repeat (first | apply Kd.R_alloc | apply Kd.R_drewN | apply Kd.R_drew)); exact HO_14.out) gb397 (Nat.le_of_eq hg.symm)) hb); have n1_ := zB.mk (zN (g := gb391) (o := .cells #[.int .i64 a0_0, .int .i64 a0_1, .slice A0_2 l0_2.length c0_2] 28 (0, 0)) (by (with_reducible repeat (first | refine zC ?_ _ | refine zG ?_ | refine zD ?_ _)); exact BK391.out) hb); have n2_ := zB.mk (zK (by repeat (first | (with_reducible first | exact HB.out | apply zF | apply zA | apply zE | refine zH ?_ GE391.out) | exact HB.out)) hb); have n3_ := zB.mk (hbox); have n4_ := zB.mk ((by rw [hg]; exact (zM (by repeat (first | (with_reducible first | exact HB.out | apply zF | apply zA | apply zE | refine zH ?_ GE391.out) | exact HB.out))) : w.heap.size ≤ gb397)); have n5_ := n4_; have n6_ := zB.mk ((by rw [hg]; exact Nat.ne_of_lt (zQ (by (with_reducible repeat (first | refine zC ?_ _ | refine zG ?_ | refine zD ?_ _)); exact BK391.out)) : gb391 ≠ gb397)); have n7_ := zB.mk n6_.out.symm; clear HO_14; clear BK391; clear HB; have HO_14 := n0_; have BK391 := n1_; have HB := n2_; have BK397 := n3_; have GW397 := n4_; have GE397 := n5_; have NB391_397 := n6_; have NB397_391 := n7_; clear n0_ n1_ n2_ n3_ n4_ n5_ n6_ n7_; clear hb hbox hg; have hnb175 := NB397_391.out; have hnc175 := NB391_397.out; have hcz176_0 : w174.cell? ⟨gb397, 0, none⟩ = some (.bool false) := zJ BK397.out 0; have hcz176_1 : w174.cell? ⟨gb397, 1, none⟩ = some (.bool false) := zJ BK397.out 1; have hcz176_2 : w174.cell? ⟨gb397, 2, none⟩ = some (.int .i64 0) := zJ BK397.out 2; have hfz176_0 := zI BK397.out 0; have hfz176_1 := zI BK397.out 1; have hfz176_2 := zI BK397.out 2))
             go_roundg k1
             case measure => have := HK1.out; omega
             case rel => exact ⟨(false), (true), (false), (false), (wrap64 (x16_1 + 1)), (by first | rfl | (simp; done) | (simp [*]; done)), (by first | rfl | (simp; done) | (simp [*]; done)), (by first | rfl | (simp; done) | (simp [*]; done)), (by first | rfl | (simp; done) | (simp [*]; done)), (by first | rfl | (simp; done) | (simp [*]; done)), H', ⟨by have := HK1.out; omega⟩, ⟨by (with_reducible repeat (first | apply Kd.R_alloc | apply Kd.R_drewN | apply Kd.R_drew)); exact Kd.R_mono (Kd.R_far (p := ⟨gb397, 2, none⟩) (Kd.R_far (p := ⟨gb397, 1, none⟩) (Kd.R_far (p := ⟨gb397, 0, none⟩) (Kd.R_mono HO_14.out (fun k_ hk => (⟨hk, hk.2⟩ : _ ∧ k_ ≠ gb397))) (fun _ hk => hk.2) (.bool false)) (fun _ hk => hk.2) (.bool false)) (fun _ hk => hk.2) (.int .i64 ((rd_T36 t393 x16_1).f2))) (fun _ hk => trivial)⟩, ⟨by (with_reducible repeat (first | refine zC ?_ _ | refine zG ?_ | refine zD ?_ _)); refine zL ?_ NB391_397.out _; (with_reducible repeat (first | refine zC ?_ _ | refine zG ?_ | refine zD ?_ _)); refine zL ?_ NB391_397.out _; (with_reducible repeat (first | refine zC ?_ _ | refine zG ?_ | refine zD ?_ _)); refine zL ?_ NB391_397.out _; (with_reducible repeat (first | refine zC ?_ _ | refine zG ?_ | refine zD ?_ _)); exact BK391.out⟩, ⟨by repeat (first | (with_reducible first | exact HB.out | apply zF | apply zA | apply zE | refine zH ?_ GE391.out | refine zH ?_ GE397.out) | exact HB.out)⟩⟩
          ·
           replace c161 := Bool.eq_false_iff.mpr c161
           subst c161
           have H1 : (if x6_1 = true then (if x7_1 = true then (zW.l0 k1 false false true true t393 (t393.length : Int) (wrap64 (x16_1 + 1))) else (if false = true then (zW.l0 k1 false false true false t393 (t393.length : Int) (wrap64 (x16_1 + 1))) else (zW.l0 k1 false false true false t393 (t393.length : Int) (wrap64 (x16_1 + 1))))) else (if false = true then (if x7_1 = true then (zW.l0 k1 false false (!(false)) true t393 (t393.length : Int) (wrap64 (x16_1 + 1))) else (zW.l0 k1 false false (!(false)) false t393 (t393.length : Int) (wrap64 (x16_1 + 1)))) else (if x7_1 = true then (zW.l0 k1 false false false true t393 (t393.length : Int) (wrap64 (x16_1 + 1))) else (zW.l0 k1 false false false false t393 (t393.length : Int) (wrap64 (x16_1 + 1)))))) = some (r1, r2) := by rw [if_neg (show ¬ (false = true) by decide)] at H; exact H
           clear H
           have H := H1
           clear H1
           by_cases c177 : x6_1 = true
           ·
            subst c177
            have H1 : (if x7_1 = true then (zW.l0 k1 false false true true t393 (t393.length : Int) (wrap64 (x16_1 + 1))) else (if false = true then (zW.l0 k1 false false true false t393 (t393.length : Int) (wrap64 (x16_1 + 1))) else (zW.l0 k1 false false true false t393 (t393.length : Int) (wrap64 (x16_1 + 1))))) = some (r1, r2) := by rw [if_pos rfl] at H; exact H
            clear H
            have H := H1
            clear H1
            by_cases c178 : x7_1 = true
            ·
             subst c178
             have H1 : (zW.l0 k1 false false true true t393 (t393.length : Int) (wrap64 (x16_1 + 1))) = some (r1, r2) := by rw [if_pos rfl] at H; exact H
             clear H
             have H := H1
             clear H1
             have H' := zB.mk H
             clear H
             have p396 : 0 ≤ (x16_1 : Int) := of_decide_eq_true (by first | (with_reducible assumption) | assumption)
             have q396 : x16_1 < (t393.length : Int) := of_decide_eq_true (by first | (with_reducible assumption) | assumption)
             obtain ⟨ad396, e396, hx396_0, hx396_1, hx396_2⟩ := at_T36 (Kd.R_reads' HO_14.out).2.2 x16_1 p396 q396
             (try rw [← Nbq95.out] at hx396_0)
             (try rw [← Nbq128.out] at hx396_0)
             (try rw [← Nbq95.out] at hx396_1)
             (try rw [← Nbq128.out] at hx396_1)
             cases e396
             replace p396 := eq_true p396
             replace q396 := eq_true q396
             go_wp2_with (first | ((with_reducible refine zP (N := 9) rfl ?_); refine zO ?hg (N := 9) ?hd (cs := #[.bool false, .bool false, .int .i64 0]) (t := 36) ?hr ?_; (case hd => rfl); (case hg => rfl); (case hr => first | (go_simp; done) | (go_simp; rfl)); intro gb397 hg w179 hbox hb; have n0_ := zB.mk (Kd.R_below (Kd.R_elderB (by (with_reducible repeat (first | apply Kd.R_alloc | apply Kd.R_drewN | apply Kd.R_drew)); exact HO_14.out) gb397 (Nat.le_of_eq hg.symm)) hb); have n1_ := zB.mk (zN (g := gb391) (o := .cells #[.int .i64 a0_0, .int .i64 a0_1, .slice A0_2 l0_2.length c0_2] 28 (0, 0)) (by (with_reducible repeat (first | refine zC ?_ _ | refine zG ?_ | refine zD ?_ _)); exact BK391.out) hb); have n2_ := zB.mk (zK (by repeat (first | (with_reducible first | exact HB.out | apply zF | apply zA | apply zE | refine zH ?_ GE391.out) | exact HB.out)) hb); have n3_ := zB.mk (hbox); have n4_ := zB.mk ((by rw [hg]; exact (zM (by repeat (first | (with_reducible first | exact HB.out | apply zF | apply zA | apply zE | refine zH ?_ GE391.out) | exact HB.out))) : w.heap.size ≤ gb397)); have n5_ := n4_; have n6_ := zB.mk ((by rw [hg]; exact Nat.ne_of_lt (zQ (by (with_reducible repeat (first | refine zC ?_ _ | refine zG ?_ | refine zD ?_ _)); exact BK391.out)) : gb391 ≠ gb397)); have n7_ := zB.mk n6_.out.symm; clear HO_14; clear BK391; clear HB; have HO_14 := n0_; have BK391 := n1_; have HB := n2_; have BK397 := n3_; have GW397 := n4_; have GE397 := n5_; have NB391_397 := n6_; have NB397_391 := n7_; clear n0_ n1_ n2_ n3_ n4_ n5_ n6_ n7_; clear hb hbox hg; have hnb180 := NB397_391.out; have hnc180 := NB391_397.out; have hcz181_0 : w179.cell? ⟨gb397, 0, none⟩ = some (.bool false) := zJ BK397.out 0; have hcz181_1 : w179.cell? ⟨gb397, 1, none⟩ = some (.bool false) := zJ BK397.out 1; have hcz181_2 : w179.cell? ⟨gb397, 2, none⟩ = some (.int .i64 0) := zJ BK397.out 2; have hfz181_0 := zI BK397.out 0; have hfz181_1 := zI BK397.out 1; have hfz181_2 := zI BK397.out 2))
             go_roundg k1
             case measure => have := HK1.out; omega
             case rel => exact ⟨(false), (false), (true), (true), (wrap64 (x16_1 + 1)), (by first | rfl | (simp; done) | (simp [*]; done)), (by first | rfl | (simp; done) | (simp [*]; done)), (by first | rfl | (simp; done) | (simp [*]; done)), (by first | rfl | (simp; done) | (simp [*]; done)), (by first | rfl | (simp; done) | (simp [*]; done)), H', ⟨by have := HK1.out; omega⟩, ⟨by (with_reducible repeat (first | apply Kd.R_alloc | apply Kd.R_drewN | apply Kd.R_drew)); exact Kd.R_mono (Kd.R_far (p := ⟨gb397, 2, none⟩) (Kd.R_far (p := ⟨gb397, 1, none⟩) (Kd.R_far (p := ⟨gb397, 0, none⟩) (Kd.R_mono HO_14.out (fun k_ hk => (⟨hk, hk.2⟩ : _ ∧ k_ ≠ gb397))) (fun _ hk => hk.2) (.bool false)) (fun _ hk => hk.2) (.bool false)) (fun _ hk => hk.2) (.int .i64 ((rd_T36 t393 x16_1).f2))) (fun _ hk => trivial)⟩, ⟨by (with_reducible repeat (first | refine zC ?_ _ | refine zG ?_ | refine zD ?_ _)); refine zL ?_ NB391_397.out _; (with_reducible repeat (first | refine zC ?_ _ | refine zG ?_ | refine zD ?_ _)); refine zL ?_ NB391_397.out _; (with_reducible repeat (first | refine zC ?_ _ | refine zG ?_ | refine zD ?_ _)); refine zL ?_ NB391_397.out _; (with_reducible repeat (first | refine zC ?_ _ | refine zG ?_ | refine zD ?_ _)); exact BK391.out⟩, ⟨by repeat (first | (with_reducible first | exact HB.out | apply zF | apply zA | apply zE | refine zH ?_ GE391.out | refine zH ?_ GE397.out) | exact HB.out)⟩⟩
            ·
             replace c178 := Bool.eq_false_iff.mpr c178
             subst c178
             have H1 : (if false = true then (zW.l0 k1 false false true false t393 (t393.length : Int) (wrap64 (x16_1 + 1))) else (zW.l0 k1 false false true false t393 (t393.length : Int) (wrap64 (x16_1 + 1)))) = some (r1, r2) := by rw [if_neg (show ¬ (false = true) by decide)] at H; exact H
             clear H
             have H := H1
             clear H1
             have H1 : (zW.l0 k1 false false true false t393 (t393.length : Int) (wrap64 (x16_1 + 1))) = some (r1, r2) := by rw [if_neg (show ¬ (false = true) by decide)] at H; exact H
             clear H
             have H := H1
             clear H1
             have H' := zB.mk H
             clear H
             have p396 : 0 ≤ (x16_1 : Int) := of_decide_eq_true (by first | (with_reducible assumption) | assumption)
             have q396 : x16_1 < (t393.length : Int) := of_decide_eq_true (by first | (with_reducible assumption) | assumption)
             obtain ⟨ad396, e396, hx396_0, hx396_1, hx396_2⟩ := at_T36 (Kd.R_reads' HO_14.out).2.2 x16_1 p396 q396
             (try rw [← Nbq95.out] at hx396_0)
             (try rw [← Nbq128.out] at hx396_0)
             (try rw [← Nbq95.out] at hx396_1)
             (try rw [← Nbq128.out] at hx396_1)
             cases e396
             replace p396 := eq_true p396
             replace q396 := eq_true q396
             go_wp2_with (first | ((with_reducible refine zP (N := 9) rfl ?_); refine zO ?hg (N := 9) ?hd (cs := #[.bool false, .bool false, .int .i64 0]) (t := 36) ?hr ?_; (case hd => rfl); (case hg => rfl); (case hr => first | (go_simp; done) | (go_simp; rfl)); intro gb397 hg w182 hbox hb; have n0_ := zB.mk (Kd.R_below (Kd.R_elderB (by (with_reducible repeat (first | apply Kd.R_alloc | apply Kd.R_drewN | apply Kd.R_drew)); exact HO_14.out) gb397 (Nat.le_of_eq hg.symm)) hb); have n1_ := zB.mk (zN (g := gb391) (o := .cells #[.int .i64 a0_0, .int .i64 a0_1, .slice A0_2 l0_2.length c0_2] 28 (0, 0)) (by (with_reducible repeat (first | refine zC ?_ _ | refine zG ?_ | refine zD ?_ _)); exact BK391.out) hb); have n2_ := zB.mk (zK (by repeat (first | (with_reducible first | exact HB.out | apply zF | apply zA | apply zE | refine zH ?_ GE391.out) | exact HB.out)) hb); have n3_ := zB.mk (hbox); have n4_ := zB.mk ((by rw [hg]; exact (zM (by repeat (first | (with_reducible first | exact HB.out | apply zF | apply zA | apply zE | refine zH ?_ GE391.out) | exact HB.out))) : w.heap.size ≤ gb397)); have n5_ := n4_; have n6_ := zB.mk ((by rw [hg]; exact Nat.ne_of_lt (zQ (by (with_reducible repeat (first | refine zC ?_ _ | refine zG ?_ | refine zD ?_ _)); exact BK391.out)) : gb391 ≠ gb397)); have n7_ := zB.mk n6_.out.symm; clear HO_14; clear BK391; clear HB; have HO_14 := n0_; have BK391 := n1_; have HB := n2_; have BK397 := n3_; have GW397 := n4_; have GE397 := n5_; have NB391_397 := n6_; have NB397_391 := n7_; clear n0_ n1_ n2_ n3_ n4_ n5_ n6_ n7_; clear hb hbox hg; have hnb183 := NB397_391.out; have hnc183 := NB391_397.out; have hcz184_0 : w182.cell? ⟨gb397, 0, none⟩ = some (.bool false) := zJ BK397.out 0; have hcz184_1 : w182.cell? ⟨gb397, 1, none⟩ = some (.bool false) := zJ BK397.out 1; have hcz184_2 : w182.cell? ⟨gb397, 2, none⟩ = some (.int .i64 0) := zJ BK397.out 2; have hfz184_0 := zI BK397.out 0; have hfz184_1 := zI BK397.out 1; have hfz184_2 := zI BK397.out 2))
             go_roundg k1
             case measure => have := HK1.out; omega
             case rel => exact ⟨(false), (false), (true), (false), (wrap64 (x16_1 + 1)), (by first | rfl | (simp; done) | (simp [*]; done)), (by first | rfl | (simp; done) | (simp [*]; done)), (by first | rfl | (simp; done) | (simp [*]; done)), (by first | rfl | (simp; done) | (simp [*]; done)), (by first | rfl | (simp; done) | (simp [*]; done)), H', ⟨by have := HK1.out; omega⟩, ⟨by (with_reducible repeat (first | apply Kd.R_alloc | apply Kd.R_drewN | apply Kd.R_drew)); exact Kd.R_mono (Kd.R_far (p := ⟨gb397, 2, none⟩) (Kd.R_far (p := ⟨gb397, 1, none⟩) (Kd.R_far (p := ⟨gb397, 0, none⟩) (Kd.R_mono HO_14.out (fun k_ hk => (⟨hk, hk.2⟩ : _ ∧ k_ ≠ gb397))) (fun _ hk => hk.2) (.bool false)) (fun _ hk => hk.2) (.bool false)) (fun _ hk => hk.2) (.int .i64 ((rd_T36 t393 x16_1).f2))) (fun _ hk => trivial)⟩, ⟨by (with_reducible repeat (first | refine zC ?_ _ | refine zG ?_ | refine zD ?_ _)); refine zL ?_ NB391_397.out _; (with_reducible repeat (first | refine zC ?_ _ | refine zG ?_ | refine zD ?_ _)); refine zL ?_ NB391_397.out _; (with_reducible repeat (first | refine zC ?_ _ | refine zG ?_ | refine zD ?_ _)); refine zL ?_ NB391_397.out _; (with_reducible repeat (first | refine zC ?_ _ | refine zG ?_ | refine zD ?_ _)); exact BK391.out⟩, ⟨by repeat (first | (with_reducible first | exact HB.out | apply zF | apply zA | apply zE | refine zH ?_ GE391.out | refine zH ?_ GE397.out) | exact HB.out)⟩⟩
           ·
            replace c177 := Bool.eq_false_iff.mpr c177
            subst c177
            have H1 : (if false = true then (if x7_1 = true then (zW.l0 k1 false false (!(false)) true t393 (t393.length : Int) (wrap64 (x16_1 + 1))) else (zW.l0 k1 false false (!(false)) false t393 (t393.length : Int) (wrap64 (x16_1 + 1)))) else (if x7_1 = true then (zW.l0 k1 false false false true t393 (t393.length : Int) (wrap64 (x16_1 + 1))) else (zW.l0 k1 false false false false t393 (t393.length : Int) (wrap64 (x16_1 + 1))))) = some (r1, r2) := by rw [if_neg (show ¬ (false = true) by decide)] at H; exact H
            clear H
            have H := H1
            clear H1
            have H1 : (if x7_1 = true then (zW.l0 k1 false false false true t393 (t393.length : Int) (wrap64 (x16_1 + 1))) else (zW.l0 k1 false false false false t393 (t393.length : Int) (wrap64 (x16_1 + 1)))) = some (r1, r2) := by rw [if_neg (show ¬ (false = true) by decide)] at H; exact H
            clear H
            have H := H1
            clear H1
            by_cases c185 : x7_1 = true
            ·
             subst c185
             have H1 : (zW.l0 k1 false false false true t393 (t393.length : Int) (wrap64 (x16_1 + 1))) = some (r1, r2) := by rw [if_pos rfl] at H; exact H
             clear H
             have H := H1
             clear H1
             have H' := zB.mk H
             clear H
             have p396 : 0 ≤ (x16_1 : Int) := of_decide_eq_true (by first | (with_reducible assumption) | assumption)
             have q396 : x16_1 < (t393.length : Int) := of_decide_eq_true (by first | (with_reducible assumption) | assumption)
             obtain ⟨ad396, e396, hx396_0, hx396_1, hx396_2⟩ := at_T36 (Kd.R_reads' HO_14.out).2.2 x16_1 p396 q396
             (try rw [← Nbq95.out] at hx396_0)
             (try rw [← Nbq128.out] at hx396_0)
             (try rw [← Nbq95.out] at hx396_1)
             (try rw [← Nbq128.out] at hx396_1)
             cases e396
             replace p396 := eq_true p396
             replace q396 := eq_true q396
             go_wp2_with (first | ((with_reducible refine zP (N := 9) rfl ?_); refine zO ?hg (N := 9) ?hd (cs := #[.bool false, .bool false, .int .i64 0]) (t := 36) ?hr ?_; (case hd => rfl); (case hg => rfl); (case hr => first | (go_simp; done) | (go_simp; rfl)); intro gb397 hg w186 hbox hb; have n0_ := zB.mk (Kd.R_below (Kd.R_elderB (by (with_reducible repeat (first | apply Kd.R_alloc | apply Kd.R_drewN | apply Kd.R_drew)); exact HO_14.out) gb397 (Nat.le_of_eq hg.symm)) hb); have n1_ := zB.mk (zN (g := gb391) (o := .cells #[.int .i64 a0_0, .int .i64 a0_1, .slice A0_2 l0_2.length c0_2] 28 (0, 0)) (by (with_reducible repeat (first | refine zC ?_ _ | refine zG ?_ | refine zD ?_ _)); exact BK391.out) hb); have n2_ := zB.mk (zK (by repeat (first | (with_reducible first | exact HB.out | apply zF | apply zA | apply zE | refine zH ?_ GE391.out) | exact HB.out)) hb); have n3_ := zB.mk (hbox); have n4_ := zB.mk ((by rw [hg]; exact (zM (by repeat (first | (with_reducible first | exact HB.out | apply zF | apply zA | apply zE | refine zH ?_ GE391.out) | exact HB.out))) : w.heap.size ≤ gb397)); have n5_ := n4_; have n6_ := zB.mk ((by rw [hg]; exact Nat.ne_of_lt (zQ (by (with_reducible repeat (first | refine zC ?_ _ | refine zG ?_ | refine zD ?_ _)); exact BK391.out)) : gb391 ≠ gb397)); have n7_ := zB.mk n6_.out.symm; clear HO_14; clear BK391; clear HB; have HO_14 := n0_; have BK391 := n1_; have HB := n2_; have BK397 := n3_; have GW397 := n4_; have GE397 := n5_; have NB391_397 := n6_; have NB397_391 := n7_; clear n0_ n1_ n2_ n3_ n4_ n5_ n6_ n7_; clear hb hbox hg; have hnb187 := NB397_391.out; have hnc187 := NB391_397.out; have hcz188_0 : w186.cell? ⟨gb397, 0, none⟩ = some (.bool false) := zJ BK397.out 0; have hcz188_1 : w186.cell? ⟨gb397, 1, none⟩ = some (.bool false) := zJ BK397.out 1; have hcz188_2 : w186.cell? ⟨gb397, 2, none⟩ = some (.int .i64 0) := zJ BK397.out 2; have hfz188_0 := zI BK397.out 0; have hfz188_1 := zI BK397.out 1; have hfz188_2 := zI BK397.out 2))
             go_roundg k1
             case measure => have := HK1.out; omega
             case rel => exact ⟨(false), (false), (false), (true), (wrap64 (x16_1 + 1)), (by first | rfl | (simp; done) | (simp [*]; done)), (by first | rfl | (simp; done) | (simp [*]; done)), (by first | rfl | (simp; done) | (simp [*]; done)), (by first | rfl | (simp; done) | (simp [*]; done)), (by first | rfl | (simp; done) | (simp [*]; done)), H', ⟨by have := HK1.out; omega⟩, ⟨by (with_reducible repeat (first | apply Kd.R_alloc | apply Kd.R_drewN | apply Kd.R_drew)); exact Kd.R_mono (Kd.R_far (p := ⟨gb397, 2, none⟩) (Kd.R_far (p := ⟨gb397, 1, none⟩) (Kd.R_far (p := ⟨gb397, 0, none⟩) (Kd.R_mono HO_14.out (fun k_ hk => (⟨hk, hk.2⟩ : _ ∧ k_ ≠ gb397))) (fun _ hk => hk.2) (.bool false)) (fun _ hk => hk.2) (.bool false)) (fun _ hk => hk.2) (.int .i64 ((rd_T36 t393 x16_1).f2))) (fun _ hk => trivial)⟩, ⟨by (with_reducible repeat (first | refine zC ?_ _ | refine zG ?_ | refine zD ?_ _)); refine zL ?_ NB391_397.out _; (with_reducible repeat (first | refine zC ?_ _ | refine zG ?_ | refine zD ?_ _)); refine zL ?_ NB391_397.out _; (with_reducible repeat (first | refine zC ?_ _ | refine zG ?_ | refine zD ?_ _)); refine zL ?_ NB391_397.out _; (with_reducible repeat (first | refine zC ?_ _ | refine zG ?_ | refine zD ?_ _)); exact BK391.out⟩, ⟨by repeat (first | (with_reducible first | exact HB.out | apply zF | apply zA | apply zE | refine zH ?_ GE391.out | refine zH ?_ GE397.out) | exact HB.out)⟩⟩
            ·
             replace c185 := Bool.eq_false_iff.mpr c185
             subst c185
             have H1 : (zW.l0 k1 false false false false t393 (t393.length : Int) (wrap64 (x16_1 + 1))) = some (r1, r2) := by rw [if_neg (show ¬ (false = true) by decide)] at H; exact H
             clear H
             have H := H1
             clear H1
             have H' := zB.mk H
             clear H
             have p396 : 0 ≤ (x16_1 : Int) := of_decide_eq_true (by first | (with_reducible assumption) | assumption)
             have q396 : x16_1 < (t393.length : Int) := of_decide_eq_true (by first | (with_reducible assumption) | assumption)
             obtain ⟨ad396, e396, hx396_0, hx396_1, hx396_2⟩ := at_T36 (Kd.R_reads' HO_14.out).2.2 x16_1 p396 q396
             (try rw [← Nbq95.out] at hx396_0)
             (try rw [← Nbq128.out] at hx396_0)
             (try rw [← Nbq95.out] at hx396_1)
             (try rw [← Nbq128.out] at hx396_1)
             cases e396
             replace p396 := eq_true p396
             replace q396 := eq_true q396
             go_wp2_with (first | ((with_reducible refine zP (N := 9) rfl ?_); refine zO ?hg (N := 9) ?hd (cs := #[.bool false, .bool false, .int .i64 0]) (t := 36) ?hr ?_; (case hd => rfl); (case hg => rfl); (case hr => first | (go_simp; done) | (go_simp; rfl)); intro gb397 hg w189 hbox hb; have n0_ := zB.mk (Kd.R_below (Kd.R_elderB (by (with_reducible repeat (first | apply Kd.R_alloc | apply Kd.R_drewN | apply Kd.R_drew)); exact HO_14.out) gb397 (Nat.le_of_eq hg.symm)) hb); have n1_ := zB.mk (zN (g := gb391) (o := .cells #[.int .i64 a0_0, .int .i64 a0_1, .slice A0_2 l0_2.length c0_2] 28 (0, 0)) (by (with_reducible repeat (first | refine zC ?_ _ | refine zG ?_ | refine zD ?_ _)); exact BK391.out) hb); have n2_ := zB.mk (zK (by repeat (first | (with_reducible first | exact HB.out | apply zF | apply zA | apply zE | refine zH ?_ GE391.out) | exact HB.out)) hb); have n3_ := zB.mk (hbox); have n4_ := zB.mk ((by rw [hg]; exact (zM (by repeat (first | (with_reducible first | exact HB.out | apply zF | apply zA | apply zE | refine zH ?_ GE391.out) | exact HB.out))) : w.heap.size ≤ gb397)); have n5_ := n4_; have n6_ := zB.mk ((by rw [hg]; exact Nat.ne_of_lt (zQ (by (with_reducible repeat (first | refine zC ?_ _ | refine zG ?_ | refine zD ?_ _)); exact BK391.out)) : gb391 ≠ gb397)); have n7_ := zB.mk n6_.out.symm; clear HO_14; clear BK391; clear HB; have HO_14 := n0_; have BK391 := n1_; have HB := n2_; have BK397 := n3_; have GW397 := n4_; have GE397 := n5_; have NB391_397 := n6_; have NB397_391 := n7_; clear n0_ n1_ n2_ n3_ n4_ n5_ n6_ n7_; clear hb hbox hg; have hnb190 := NB397_391.out; have hnc190 := NB391_397.out; have hcz191_0 : w189.cell? ⟨gb397, 0, none⟩ = some (.bool false) := zJ BK397.out 0; have hcz191_1 : w189.cell? ⟨gb397, 1, none⟩ = some (.bool false) := zJ BK397.out 1; have hcz191_2 : w189.cell? ⟨gb397, 2, none⟩ = some (.int .i64 0) := zJ BK397.out 2; have hfz191_0 := zI BK397.out 0; have hfz191_1 := zI BK397.out 1; have hfz191_2 := zI BK397.out 2))
             go_roundg k1
             case measure => have := HK1.out; omega
             case rel => exact ⟨(false), (false), (false), (false), (wrap64 (x16_1 + 1)), (by first | rfl | (simp; done) | (simp [*]; done)), (by first | rfl | (simp; done) | (simp [*]; done)), (by first | rfl | (simp; done) | (simp [*]; done)), (by first | rfl | (simp; done) | (simp [*]; done)), (by first | rfl | (simp; done) | (simp [*]; done)), H', ⟨by have := HK1.out; omega⟩, ⟨by (with_reducible repeat (first | apply Kd.R_alloc | apply Kd.R_drewN | apply Kd.R_drew)); exact Kd.R_mono (Kd.R_far (p := ⟨gb397, 2, none⟩) (Kd.R_far (p := ⟨gb397, 1, none⟩) (Kd.R_far (p := ⟨gb397, 0, none⟩) (Kd.R_mono HO_14.out (fun k_ hk => (⟨hk, hk.2⟩ : _ ∧ k_ ≠ gb397))) (fun _ hk => hk.2) (.bool false)) (fun _ hk => hk.2) (.bool false)) (fun _ hk => hk.2) (.int .i64 ((rd_T36 t393 x16_1).f2))) (fun _ hk => trivial)⟩, ⟨by (with_reducible repeat (first | refine zC ?_ _ | refine zG ?_ | refine zD ?_ _)); refine zL ?_ NB391_397.out _; (with_reducible repeat (first | refine zC ?_ _ | refine zG ?_ | refine zD ?_ _)); refine zL ?_ NB391_397.out _; (with_reducible repeat (first | refine zC ?_ _ | refine zG ?_ | refine zD ?_ _)); refine zL ?_ NB391_397.out _; (with_reducible repeat (first | refine zC ?_ _ | refine zG ?_ | refine zD ?_ _)); exact BK391.out⟩, ⟨by repeat (first | (with_reducible first | exact HB.out | apply zF | apply zA | apply zE | refine zH ?_ GE391.out | refine zH ?_ GE397.out) | exact HB.out)⟩⟩
      ·
       rw [if_neg c14] at H
       exact absurd H (by simp)
     ·
      rw [if_neg c13] at H
      exact absurd H (by simp)
    ·
     rw [if_neg c12] at H
     have c12b0 : decide (x16_1 < (t393.length : Int)) = false := decide_eq_false c12
     clear c12
     have HC192 := zB.mk H
     clear H
     go_upto_region 12 with (fail)
     go_cut [70] (fun v70 wc => ∃ (kq : Nat) (x70_191 : Bool), v70 = .bool x70_191 ∧ zB (zW.j1 kq x4_1 x5_1 x6_1 x7_1 x70_191 = some (r1, r2)) ∧ zB (kq ≤ k1) ∧ zB (wc.heap[gb391]? = some (.cells #[.int .i64 a0_0, .int .i64 a0_1, (.slice A0_2 l0_2.length c0_2)] 28 (0, 0))) ∧ zB (Below w.heap.size w wc))
     case first =>
      have H := HC192.out
      clear HC192
      by_cases c193 : x4_1 = true
      ·
       subst c193
       have H1 : (zW.j1 k1 true x5_1 x6_1 x7_1 x6_1) = some (r1, r2) := by rw [if_pos rfl] at H; exact H
       clear H
       have H := H1
       clear H1
       have H' := zB.mk H
       clear H
       go_wp2
       go_meet
       case rel => exact ⟨_, (x6_1), (by first | rfl | (simp; done) | (simp [*]; done)), H', ⟨by have := HK1.out; first | omega | exact Nat.le_refl _⟩, ⟨by (with_reducible repeat (first | refine zC ?_ _ | refine zG ?_ | refine zD ?_ _)); exact BK391.out⟩, ⟨by repeat (first | (with_reducible first | exact HB.out | apply zF | apply zA | apply zE | refine zH ?_ GE391.out) | exact HB.out)⟩⟩
      ·
       replace c193 := Bool.eq_false_iff.mpr c193
       subst c193
       have H1 : (zW.j1 k1 false x5_1 x6_1 x7_1 false) = some (r1, r2) := by rw [if_neg (show ¬ (false = true) by decide)] at H; exact H
       clear H
       have H := H1
       clear H1
       have H' := zB.mk H
       clear H
       go_wp2
       go_meet
       case rel => exact ⟨_, (false), (by first | rfl | (simp; done) | (simp [*]; done)), H', ⟨by have := HK1.out; first | omega | exact Nat.le_refl _⟩, ⟨by (with_reducible repeat (first | refine zC ?_ _ | refine zG ?_ | refine zD ?_ _)); exact BK391.out⟩, ⟨by repeat (first | (with_reducible first | exact HB.out | apply zF | apply zA | apply zE | refine zH ?_ GE391.out) | exact HB.out)⟩⟩
     case rest =>
      clear HC192
      try clear c1
      try clear q1
      try clear p2
      try clear p3
      try clear q3
      try clear hx3
      try clear p6
      try clear c9
      try clear q9
      try clear c11
      try clear c12
      try clear c12b0
      try clear q12
      try clear c13
      try clear c14
      try clear c15
      try clear c16
      try clear c17
      try clear c18
      try clear c19
      try clear p39
      try clear q39
      try clear hx39
      try clear p64
      try clear q95
      try clear c96
      try clear c113
      try clear c114
      try clear c116
      try clear c119
      try clear c121
      try clear c123
      try clear c126
      try clear q128
      try clear c129
      try clear c130
      try clear c131
      try clear c132
      try clear c134
      try clear c137
      try clear c139
      try clear c141
      try clear c144
      try clear c146
      try clear c147
      try clear c149
      try clear c152
      try clear c154
      try clear c156
      try clear c159
      try clear c161
      try clear c162
      try clear c163
      try clear c165
      try clear c168
      try clear c170
      try clear c172
      try clear c175
      try clear c177
      try clear c178
      try clear c180
      try clear c183
      try clear c185
      try clear c187
      try clear c190
      try clear c193
      try clear hcz117_0
      try clear hcz117_1
      try clear hcz117_2
      try clear hcz120_0
      try clear hcz120_1
      try clear hcz120_2
      try clear hcz124_0
      try clear hcz124_1
      try clear hcz124_2
      try clear hcz127_0
      try clear hcz127_1
      try clear hcz127_2
      try clear hcz135_0
      try clear hcz135_1
      try clear hcz135_2
      try clear hcz138_0
      try clear hcz138_1
      try clear hcz138_2
      try clear hcz142_0
      try clear hcz142_1
      try clear hcz142_2
      try clear hcz145_0
      try clear hcz145_1
      try clear hcz145_2
      try clear hcz150_0
      try clear hcz150_1
      try clear hcz150_2
      try clear hcz153_0
      try clear hcz153_1
      try clear hcz153_2
      try clear hcz157_0
      try clear hcz157_1
      try clear hcz157_2
      try clear hcz160_0
      try clear hcz160_1
      try clear hcz160_2
      try clear hcz166_0
      try clear hcz166_1
      try clear hcz166_2
      try clear hcz169_0
      try clear hcz169_1
      try clear hcz169_2
      try clear hcz173_0
      try clear hcz173_1
      try clear hcz173_2
      try clear hcz176_0
      try clear hcz176_1
      try clear hcz176_2
      try clear hcz181_0
      try clear hcz181_1
      try clear hcz181_2
      try clear hcz184_0
      try clear hcz184_1
      try clear hcz184_2
      try clear hcz188_0
      try clear hcz188_1
      try clear hcz188_2
      try clear hcz191_0
      try clear hcz191_1
      try clear hcz191_2
      try clear hfz117_0
      try clear hfz117_1
      try clear hfz117_2
      try clear hfz120_0
      try clear hfz120_1
      try clear hfz120_2
      try clear hfz124_0
      try clear hfz124_1
      try clear hfz124_2
      try clear hfz127_0
      try clear hfz127_1
      try clear hfz127_2
      try clear hfz135_0
      try clear hfz135_1
      try clear hfz135_2
      try clear hfz138_0
      try clear hfz138_1
      try clear hfz138_2
      try clear hfz142_0
      try clear hfz142_1
      try clear hfz142_2
      try clear hfz145_0
      try clear hfz145_1
      try clear hfz145_2
      try clear hfz150_0
      try clear hfz150_1
      try clear hfz150_2
      try clear hfz153_0
      try clear hfz153_1
      try clear hfz153_2
      try clear hfz157_0
      try clear hfz157_1
      try clear hfz157_2
      try clear hfz160_0
      try clear hfz160_1
      try clear hfz160_2
      try clear hfz166_0
      try clear hfz166_1
      try clear hfz166_2
      try clear hfz169_0
      try clear hfz169_1
      try clear hfz169_2
      try clear hfz173_0
      try clear hfz173_1
      try clear hfz173_2
      try clear hfz176_0
      try clear hfz176_1
      try clear hfz176_2
      try clear hfz181_0
      try clear hfz181_1
      try clear hfz181_2
      try clear hfz184_0
      try clear hfz184_1
      try clear hfz184_2
      try clear hfz188_0
      try clear hfz188_1
      try clear hfz188_2
      try clear hfz191_0
      try clear hfz191_1
      try clear hfz191_2
      try clear hx396_0
      try clear hx396_1
      try clear hx396_2
      try clear p396
      try clear q396
      obtain ⟨kq, x70_191, rfl, HA, HJ191, BK391, HB⟩ := hcut
      cases kq with
      | zero => exact absurd HA.out (by simp [zW.j1])
      | succ kj191 =>
       have H := HA.out
       clear HA
       simp only [zW.j1] at H
       by_cases c194 : x70_191 = true
       ·
        subst c194
        have H1 : (some ((⟨#[112, 50, 109, 109]⟩ : ByteArray), 0)) = some (r1, r2) := by rw [if_pos rfl] at H; exact H
        clear H
        have H := H1
        clear H1
        simp only [Option.some.injEq, Prod.mk.injEq] at H
        obtain ⟨rfl, rfl⟩ := H
        go_wp2
        go_ret2
        exact ⟨by first | rfl | (simp [*, errW_none, errW_some] <;> rfl), by repeat (first | (with_reducible first | exact HB.out | apply zF | apply zA | apply zE | refine zH ?_ GE391.out) | exact HB.out)⟩
       ·
        replace c194 := Bool.eq_false_iff.mpr c194
        subst c194
        have H1 : (if x4_1 = true then (some ((⟨#[112, 49, 49, 109]⟩ : ByteArray), 0)) else (if x6_1 = true then (zW.j2 kj191 x5_1 x6_1 x7_1 x7_1) else (zW.j2 kj191 x5_1 x6_1 x7_1 false))) = some (r1, r2) := by rw [if_neg (show ¬ (false = true) by decide)] at H; exact H
        clear H
        have H := H1
        clear H1
        by_cases c195 : x4_1 = true
        ·
         subst c195
         have H1 : (some ((⟨#[112, 49, 49, 109]⟩ : ByteArray), 0)) = some (r1, r2) := by rw [if_pos rfl] at H; exact H
         clear H
         have H := H1
         clear H1
         simp only [Option.some.injEq, Prod.mk.injEq] at H
         obtain ⟨rfl, rfl⟩ := H
         go_wp2
         go_ret2
         exact ⟨by first | rfl | (simp [*, errW_none, errW_some] <;> rfl), by repeat (first | (with_reducible first | exact HB.out | apply zF | apply zA | apply zE | refine zH ?_ GE391.out) | exact HB.out)⟩
        ·
         replace c195 := Bool.eq_false_iff.mpr c195
         subst c195
         have H1 : (if x6_1 = true then (zW.j2 kj191 x5_1 x6_1 x7_1 x7_1) else (zW.j2 kj191 x5_1 x6_1 x7_1 false)) = some (r1, r2) := by rw [if_neg (show ¬ (false = true) by decide)] at H; exact H
         clear H
         have H := H1
         clear H1
         have HC196 := zB.mk H
         clear H
         go_upto_region 16 with (fail)
         go_cut [77] (fun v77 wc => ∃ (kq : Nat) (x77_195 : Bool), v77 = .bool x77_195 ∧ zB (zW.j2 kq x5_1 x6_1 x7_1 x77_195 = some (r1, r2)) ∧ zB (kq ≤ kj191) ∧ zB (wc.heap[gb391]? = some (.cells #[.int .i64 a0_0, .int .i64 a0_1, (.slice A0_2 l0_2.length c0_2)] 28 (0, 0))) ∧ zB (Below w.heap.size w wc))
         case first =>
          have H := HC196.out
          clear HC196
          by_cases c197 : x6_1 = true
          ·
           subst c197
           have H1 : (zW.j2 kj191 x5_1 true x7_1 x7_1) = some (r1, r2) := by rw [if_pos rfl] at H; exact H
           clear H
           have H := H1
           clear H1
           have H' := zB.mk H
           clear H
           go_wp2
           go_meet
           case rel => exact ⟨_, (x7_1), (by first | rfl | (simp; done) | (simp [*]; done)), H', ⟨by have := HK1.out; have := HJ191.out; first | omega | exact Nat.le_refl _⟩, ⟨by (with_reducible repeat (first | refine zC ?_ _ | refine zG ?_ | refine zD ?_ _)); exact BK391.out⟩, ⟨by repeat (first | (with_reducible first | exact HB.out | apply zF | apply zA | apply zE | refine zH ?_ GE391.out) | exact HB.out)⟩⟩
          ·
           replace c197 := Bool.eq_false_iff.mpr c197
           subst c197
           have H1 : (zW.j2 kj191 x5_1 false x7_1 false) = some (r1, r2) := by rw [if_neg (show ¬ (false = true) by decide)] at H; exact H
           clear H
           have H := H1
           clear H1
           have H' := zB.mk H
           clear H
           go_wp2
           go_meet
           case rel => exact ⟨_, (false), (by first | rfl | (simp; done) | (simp [*]; done)), H', ⟨by have := HK1.out; have := HJ191.out; first | omega | exact Nat.le_refl _⟩, ⟨by (with_reducible repeat (first | refine zC ?_ _ | refine zG ?_ | refine zD ?_ _)); exact BK391.out⟩, ⟨by repeat (first | (with_reducible first | exact HB.out | apply zF | apply zA | apply zE | refine zH ?_ GE391.out) | exact HB.out)⟩⟩
         case rest =>
          clear HC196
          try clear c1
          try clear q1
          try clear p2
          try clear p3
          try clear q3
          try clear hx3
          try clear p6
          try clear c9
          try clear q9
          try clear c11
          try clear c12
          try clear c12b0
          try clear q12
          try clear c13
          try clear c14
          try clear c15
          try clear c16
          try clear c17
          try clear c18
          try clear c19
          try clear p39
          try clear q39
          try clear hx39
          try clear p64
          try clear q95
          try clear c96
          try clear c113
          try clear c114
          try clear c116
          try clear c119
          try clear c121
          try clear c123
          try clear c126
          try clear q128
          try clear c129
          try clear c130
          try clear c131
          try clear c132
          try clear c134
          try clear c137
          try clear c139
          try clear c141
          try clear c144
          try clear c146
          try clear c147
          try clear c149
          try clear c152
          try clear c154
          try clear c156
          try clear c159
          try clear c161
          try clear c162
          try clear c163
          try clear c165
          try clear c168
          try clear c170
          try clear c172
          try clear c175
          try clear c177
          try clear c178
          try clear c180
          try clear c183
          try clear c185
          try clear c187
          try clear c190
          try clear c193
          try clear c194
          try clear c195
          try clear c197
          try clear hcz117_0
          try clear hcz117_1
          try clear hcz117_2
          try clear hcz120_0
          try clear hcz120_1
          try clear hcz120_2
          try clear hcz124_0
          try clear hcz124_1
          try clear hcz124_2
          try clear hcz127_0
          try clear hcz127_1
          try clear hcz127_2
          try clear hcz135_0
          try clear hcz135_1
          try clear hcz135_2
          try clear hcz138_0
          try clear hcz138_1
          try clear hcz138_2
          try clear hcz142_0
          try clear hcz142_1
          try clear hcz142_2
          try clear hcz145_0
          try clear hcz145_1
          try clear hcz145_2
          try clear hcz150_0
          try clear hcz150_1
          try clear hcz150_2
          try clear hcz153_0
          try clear hcz153_1
          try clear hcz153_2
          try clear hcz157_0
          try clear hcz157_1
          try clear hcz157_2
          try clear hcz160_0
          try clear hcz160_1
          try clear hcz160_2
          try clear hcz166_0
          try clear hcz166_1
          try clear hcz166_2
          try clear hcz169_0
          try clear hcz169_1
          try clear hcz169_2
          try clear hcz173_0
          try clear hcz173_1
          try clear hcz173_2
          try clear hcz176_0
          try clear hcz176_1
          try clear hcz176_2
          try clear hcz181_0
          try clear hcz181_1
          try clear hcz181_2
          try clear hcz184_0
          try clear hcz184_1
          try clear hcz184_2
          try clear hcz188_0
          try clear hcz188_1
          try clear hcz188_2
          try clear hcz191_0
          try clear hcz191_1
          try clear hcz191_2
          try clear hfz117_0
          try clear hfz117_1
          try clear hfz117_2
          try clear hfz120_0
          try clear hfz120_1
          try clear hfz120_2
          try clear hfz124_0
          try clear hfz124_1
          try clear hfz124_2
          try clear hfz127_0
          try clear hfz127_1
          try clear hfz127_2
          try clear hfz135_0
          try clear hfz135_1
          try clear hfz135_2
          try clear hfz138_0
          try clear hfz138_1
          try clear hfz138_2
          try clear hfz142_0
          try clear hfz142_1
          try clear hfz142_2
          try clear hfz145_0
          try clear hfz145_1
          try clear hfz145_2
          try clear hfz150_0
          try clear hfz150_1
          try clear hfz150_2
          try clear hfz153_0
          try clear hfz153_1
          try clear hfz153_2
          try clear hfz157_0
          try clear hfz157_1
          try clear hfz157_2
          try clear hfz160_0
          try clear hfz160_1
          try clear hfz160_2
          try clear hfz166_0
          try clear hfz166_1
          try clear hfz166_2
          try clear hfz169_0
          try clear hfz169_1
          try clear hfz169_2
          try clear hfz173_0
          try clear hfz173_1
          try clear hfz173_2
          try clear hfz176_0
          try clear hfz176_1
          try clear hfz176_2
          try clear hfz181_0
          try clear hfz181_1
          try clear hfz181_2
          try clear hfz184_0
          try clear hfz184_1
          try clear hfz184_2
          try clear hfz188_0
          try clear hfz188_1
          try clear hfz188_2
          try clear hfz191_0
          try clear hfz191_1
          try clear hfz191_2
          try clear hx396_0
          try clear hx396_1
          try clear hx396_2
          try clear p2
          try clear p3
          try clear p39
          try clear p396
          try clear p6
          try clear p64
          try clear q1
          try clear q12
          try clear q128
          try clear q3
          try clear q39
          try clear q396
          try clear q9
          try clear q95
          obtain ⟨kq, x77_195, rfl, HA, HJ195, BK391, HB⟩ := hcut
          cases kq with
          | zero => exact absurd HA.out (by simp [zW.j2])
          | succ kj195 =>
           have H := HA.out
           clear HA
           simp only [zW.j2] at H
           by_cases c198 : x77_195 = true
           ·
            subst c198
            have H1 : (some ((⟨#[112, 50, 109, 103]⟩ : ByteArray), 0)) = some (r1, r2) := by rw [if_pos rfl] at H; exact H
            clear H
            have H := H1
            clear H1
            simp only [Option.some.injEq, Prod.mk.injEq] at H
            obtain ⟨rfl, rfl⟩ := H
            go_wp2
            go_ret2
            exact ⟨by first | rfl | (simp [*, errW_none, errW_some] <;> rfl), by repeat (first | (with_reducible first | exact HB.out | apply zF | apply zA | apply zE | refine zH ?_ GE391.out) | exact HB.out)⟩
           ·
            replace c198 := Bool.eq_false_iff.mpr c198
            subst c198
            have H1 : (if x6_1 = true then (some ((⟨#[112, 49, 109, 49]⟩ : ByteArray), 0)) else (if x7_1 = true then (some ((⟨#[112, 50]⟩ : ByteArray), 0)) else (if x5_1 = true then (some ((⟨#[112, 49, 49, 103]⟩ : ByteArray), 0)) else (some ((⟨#[112, 49]⟩ : ByteArray), 0))))) = some (r1, r2) := by rw [if_neg (show ¬ (false = true) by decide)] at H; exact H
            clear H
            have H := H1
            clear H1
            by_cases c199 : x6_1 = true
            ·
             subst c199
             have H1 : (some ((⟨#[112, 49, 109, 49]⟩ : ByteArray), 0)) = some (r1, r2) := by rw [if_pos rfl] at H; exact H
             clear H
             have H := H1
             clear H1
             simp only [Option.some.injEq, Prod.mk.injEq] at H
             obtain ⟨rfl, rfl⟩ := H
             go_wp2
             go_ret2
             exact ⟨by first | rfl | (simp [*, errW_none, errW_some] <;> rfl), by repeat (first | (with_reducible first | exact HB.out | apply zF | apply zA | apply zE | refine zH ?_ GE391.out) | exact HB.out)⟩
            ·
             replace c199 := Bool.eq_false_iff.mpr c199
             subst c199
             have H1 : (if x7_1 = true then (some ((⟨#[112, 50]⟩ : ByteArray), 0)) else (if x5_1 = true then (some ((⟨#[112, 49, 49, 103]⟩ : ByteArray), 0)) else (some ((⟨#[112, 49]⟩ : ByteArray), 0)))) = some (r1, r2) := by rw [if_neg (show ¬ (false = true) by decide)] at H; exact H
             clear H
             have H := H1
             clear H1
             by_cases c200 : x7_1 = true
             ·
              subst c200
              have H1 : (some ((⟨#[112, 50]⟩ : ByteArray), 0)) = some (r1, r2) := by rw [if_pos rfl] at H; exact H
              clear H
              have H := H1
              clear H1
              simp only [Option.some.injEq, Prod.mk.injEq] at H
              obtain ⟨rfl, rfl⟩ := H
              go_wp2
              go_ret2
              exact ⟨by first | rfl | (simp [*, errW_none, errW_some] <;> rfl), by repeat (first | (with_reducible first | exact HB.out | apply zF | apply zA | apply zE | refine zH ?_ GE391.out) | exact HB.out)⟩
             ·
              replace c200 := Bool.eq_false_iff.mpr c200
              subst c200
              have H1 : (if x5_1 = true then (some ((⟨#[112, 49, 49, 103]⟩ : ByteArray), 0)) else (some ((⟨#[112, 49]⟩ : ByteArray), 0))) = some (r1, r2) := by rw [if_neg (show ¬ (false = true) by decide)] at H; exact H
              clear H
              have H := H1
              clear H1
              by_cases c201 : x5_1 = true
              ·
               subst c201
               have H1 : (some ((⟨#[112, 49, 49, 103]⟩ : ByteArray), 0)) = some (r1, r2) := by rw [if_pos rfl] at H; exact H
               clear H
               have H := H1
               clear H1
               simp only [Option.some.injEq, Prod.mk.injEq] at H
               obtain ⟨rfl, rfl⟩ := H
               go_wp2
               go_ret2
               exact ⟨by first | rfl | (simp [*, errW_none, errW_some] <;> rfl), by repeat (first | (with_reducible first | exact HB.out | apply zF | apply zA | apply zE | refine zH ?_ GE391.out) | exact HB.out)⟩
              ·
               replace c201 := Bool.eq_false_iff.mpr c201
               subst c201
               have H1 : (some ((⟨#[112, 49]⟩ : ByteArray), 0)) = some (r1, r2) := by rw [if_neg (show ¬ (false = true) by decide)] at H; exact H
               clear H
               have H := H1
               clear H1
               simp only [Option.some.injEq, Prod.mk.injEq] at H
               obtain ⟨rfl, rfl⟩ := H
               go_wp2
               go_ret2
               exact ⟨by first | rfl | (simp [*, errW_none, errW_some] <;> rfl), by repeat (first | (with_reducible first | exact HB.out | apply zF | apply zA | apply zE | refine zH ?_ GE391.out) | exact HB.out)⟩
 ·
  replace c7 := Bool.eq_false_iff.mpr c7
  subst c7
  have H1 : (some ((⟨#[]⟩ : ByteArray), 1)) = some (r1, r2) := by rw [if_neg (show ¬ (false = true) by decide)] at H; exact H
  clear H
  have H := H1
  clear H1
  simp only [Option.some.injEq, Prod.mk.injEq] at H
  obtain ⟨rfl, rfl⟩ := H
  go_wp2
  go_ret2
  exact ⟨by first | rfl | (simp [*, errW_none, errW_some] <;> rfl), by repeat (first | (with_reducible first | exact HB.out | apply zF | apply zA | apply zE | refine zH ?_ GE391.out) | exact HB.out)⟩
end Go.Proofs.Ytjjockhekaccnaa.X
