/- Part of the proof of the law FnExactFriezeName: each function of the code computes what its plain function says. No condition of its own. -/
import Derived.Test.YtjjockhekaccnaaCFnExactFriezeNameW3
set_option maxHeartbeats 8000000
set_option maxRecDepth 100000
namespace Go.Proofs.Ytjjockhekaccnaa.X
open Go.RowKit Go.Proofs.YtjjockhekaccnaaW.PrintWords Go.Proofs.YtjjockhekaccnaaW.PrintLast Go.Proofs.YtjjockhekaccnaaW.PrintMore
attribute [local go_sem] max2_int min2_int max_two min_two max_three min_three max_four min_four   -- for this text's walks alone
set_option linter.unusedVariables false
set_option linter.unusedSimpArgs false
theorem yJ.calls (k : Nat) (a0_0 : Int) (a0_1 : Int) (A0_2 : Option Addr) (c0_2 : Nat) (l0_2 : List Int) (r : Bool) (w : World) (hr0_2 : Kd.C (Kd.int .i64) w A0_2 l0_2.length l0_2) (hc0_2 : l0_2.length ≤ c0_2) (h : yJ.f k a0_0 a0_1 l0_2 = some r) :
  Calls Try.prog 6 #[.agg #[.int .i64 a0_0, .int .i64 a0_1, .slice A0_2 l0_2.length c0_2]] w fun e w' => e = .returned (.bool r) ∧ Below w.heap.size w w' := by
 have hu24 := Try.underlying24
 have hu28 := Try.underlying28
 have HR0_2 := zB.mk hr0_2
 have HC0_2 := zB.mk hc0_2
 clear hr0_2 hc0_2
 have HB := zB.mk (Below.refl w.heap.size w)
 have H : ((yX.f a0_0 a0_1 l0_2 1048576).bind fun t399 => (if t399 < 0 then (some true) else ((yK.f k a0_0 a0_1 l0_2).bind fun bt400 => ((zX.f k bt400.1 bt400.2.1 bt400.2.2).bind fun bt405 => ((yK.f k a0_0 a0_1 l0_2).bind fun bt407 => ((zW.f k bt407.1 bt407.2.1 bt407.2.2).bind fun bt413 => (if bt413.1.toList = bt405.1.toList then (if bt413.2 = bt405.2 then ((yK.f k a0_0 a0_1 l0_2).bind fun bt415 => ((yL.f k bt407.1 bt407.2.1 bt407.2.2 bt415.1 bt415.2.1 bt415.2.2).bind fun t420 => (if t420 = true then (some true) else (none)))) else (none)) else (none)))))))) = some r := h
 clear h
 replace H := Option.bind_eq_some_iff.mp H
 obtain ⟨t399, A20, H⟩ := H
 replace H : (if t399 < 0 then (some true) else ((yK.f k a0_0 a0_1 l0_2).bind fun bt400 => ((zX.f k bt400.1 bt400.2.1 bt400.2.2).bind fun bt405 => ((yK.f k a0_0 a0_1 l0_2).bind fun bt407 => ((zW.f k bt407.1 bt407.2.1 bt407.2.2).bind fun bt413 => (if bt413.1.toList = bt405.1.toList then (if bt413.2 = bt405.2 then ((yK.f k a0_0 a0_1 l0_2).bind fun bt415 => ((yL.f k bt407.1 bt407.2.1 bt407.2.2 bt415.1 bt415.2.1 bt415.2.2).bind fun t420 => (if t420 = true then (some true) else (none)))) else (none)) else (none))))))) = some r := H
 have A2 := zB.mk A20
 clear A20
 by_cases c3 : t399 < 0
 ·
  rw [if_pos c3] at H
  have c3b0 : decide (t399 < 0) = true := decide_eq_true c3
  clear c3
  obtain rfl := Option.some.inj H
  go_enter Try.func6, Try.ntmps6
  go_wp2_with (first | ((with_reducible refine zP (N := 1) rfl ?_); refine zO ?hg (N := 1) ?hd (cs := #[.int .i64 a0_0, .int .i64 a0_1, .slice A0_2 l0_2.length c0_2]) (t := 24) ?hr ?_; (case hd => rfl); (case hg => rfl); (case hr => first | (go_simp; done) | (go_simp; rfl)); intro gb398 hg w4 hbox hb; have n0_ := zB.mk (zK (by repeat (first | (with_reducible first | exact HB.out | apply zF | apply zA | apply zE) | exact HB.out)) hb); have n1_ := zB.mk (hbox); have n2_ := zB.mk ((by rw [hg]; exact (zM (by repeat (first | (with_reducible first | exact HB.out | apply zF | apply zA | apply zE) | exact HB.out))) : w.heap.size ≤ gb398)); have n3_ := n2_; clear HB; have HB := n0_; have BK398 := n1_; have GW398 := n2_; have GE398 := n3_; clear n0_ n1_ n2_ n3_; clear hb hbox hg; have hcz5_0 : w4.cell? ⟨gb398, 0, none⟩ = some (.int .i64 a0_0) := zJ BK398.out 0; have hcz5_1 : w4.cell? ⟨gb398, 1, none⟩ = some (.int .i64 a0_1) := zJ BK398.out 1; have hcz5_2 : w4.cell? ⟨gb398, 2, none⟩ = some (.slice A0_2 l0_2.length c0_2) := zJ BK398.out 2; have hfz5_0 := zI BK398.out 0; have hfz5_1 := zI BK398.out 1; have hfz5_2 := zI BK398.out 2) | ((with_reducible refine zR (f := 15) rfl ?_); refine zV (some 11) rfl rfl Try.func15 (by kernel_rfl) rfl #[.agg #[.int .i64 a0_0, .int .i64 a0_1, .slice A0_2 l0_2.length c0_2], .int .i64 1048576] rfl (by (try simp only [List.map_toArray, List.map_cons, List.map_nil]); first | done | rfl) ?_; (with_reducible refine (yX.calls a0_0 a0_1 _ _ l0_2 1048576 t399 _ ?side1 ?side2 A2.out).mono ?_); (case side1 => repeat (first | exact (Kd.C_below HR0_2.out HB.out) | (with_reducible refine Kd.C_alloc ?_ _) | (with_reducible refine Kd.C_drewN ?_ _) | (with_reducible refine Kd.C_drew ?_))); (case side2 => exact HC0_2.out); rintro e w6 ⟨rfl, hb⟩; refine ⟨_, rfl, ?_⟩; have n0_ := zB.mk (zN (g := gb398) (o := .cells #[.int .i64 a0_0, .int .i64 a0_1, .slice A0_2 l0_2.length c0_2] 24 (0, 0)) (by (with_reducible repeat (first | refine zC ?_ _ | refine zG ?_ | refine zD ?_ _)); exact BK398.out) hb); have n1_ := zB.mk (zK (by repeat (first | (with_reducible first | exact HB.out | apply zF | apply zA | apply zE | refine zH ?_ GE398.out) | exact HB.out)) hb); clear BK398; clear HB; have BK398 := n0_; have HB := n1_; clear n0_ n1_; (try clear hb)))
  go_ret
  exact ⟨by first | rfl | (simp [*, errW_none, errW_some] <;> rfl), by repeat (first | (with_reducible first | exact HB.out | apply zF | apply zA | apply zE | refine zH ?_ GE398.out) | exact HB.out)⟩
 ·
  rw [if_neg c3] at H
  have c3b0 : decide (t399 < 0) = false := decide_eq_false c3
  clear c3
  replace H := Option.bind_eq_some_iff.mp H
  obtain ⟨⟨t400, t401, t402⟩, A70, H⟩ := H
  replace H : ((zX.f k t400 t401 t402).bind fun bt405 => ((yK.f k a0_0 a0_1 l0_2).bind fun bt407 => ((zW.f k bt407.1 bt407.2.1 bt407.2.2).bind fun bt413 => (if bt413.1.toList = bt405.1.toList then (if bt413.2 = bt405.2 then ((yK.f k a0_0 a0_1 l0_2).bind fun bt415 => ((yL.f k bt407.1 bt407.2.1 bt407.2.2 bt415.1 bt415.2.1 bt415.2.2).bind fun t420 => (if t420 = true then (some true) else (none)))) else (none)) else (none))))) = some r := H
  have A7 := zB.mk A70
  clear A70
  replace H := Option.bind_eq_some_iff.mp H
  obtain ⟨⟨t405, t406⟩, A80, H⟩ := H
  replace H : ((yK.f k a0_0 a0_1 l0_2).bind fun bt407 => ((zW.f k bt407.1 bt407.2.1 bt407.2.2).bind fun bt413 => (if bt413.1.toList = t405.toList then (if bt413.2 = t406 then ((yK.f k a0_0 a0_1 l0_2).bind fun bt415 => ((yL.f k bt407.1 bt407.2.1 bt407.2.2 bt415.1 bt415.2.1 bt415.2.2).bind fun t420 => (if t420 = true then (some true) else (none)))) else (none)) else (none)))) = some r := H
  have A8 := zB.mk A80
  clear A80
  replace H := Option.bind_eq_some_iff.mp H
  obtain ⟨⟨t407, t408, t409⟩, A90, H⟩ := H
  replace H : ((zW.f k t407 t408 t409).bind fun bt413 => (if bt413.1.toList = t405.toList then (if bt413.2 = t406 then ((yK.f k a0_0 a0_1 l0_2).bind fun bt415 => ((yL.f k t407 t408 t409 bt415.1 bt415.2.1 bt415.2.2).bind fun t420 => (if t420 = true then (some true) else (none)))) else (none)) else (none))) = some r := H
  have A9 := zB.mk A90
  clear A90
  replace H := Option.bind_eq_some_iff.mp H
  obtain ⟨⟨t413, t414⟩, A100, H⟩ := H
  replace H : (if t413.toList = t405.toList then (if t414 = t406 then ((yK.f k a0_0 a0_1 l0_2).bind fun bt415 => ((yL.f k t407 t408 t409 bt415.1 bt415.2.1 bt415.2.2).bind fun t420 => (if t420 = true then (some true) else (none)))) else (none)) else (none)) = some r := H
  have A10 := zB.mk A100
  clear A100
  by_cases c11 : t413.toList = t405.toList
  ·
   rw [if_pos c11] at H
   have c11b0 : (t413.toList == t405.toList) = true := beq_iff_eq.mpr c11
   have c11b1 : (t413.toList != t405.toList) = false := bne_eq_false_iff_eq.mpr c11
   clear c11
   by_cases c12 : t414 = t406
   ·
    rw [if_pos c12] at H
    have c12b0 : (t414 == t406) = true := beq_iff_eq.mpr c12
    have c12b1 : (t414 != t406) = false := bne_eq_false_iff_eq.mpr c12
    clear c12
    replace H := Option.bind_eq_some_iff.mp H
    obtain ⟨⟨t415, t416, t417⟩, A130, H⟩ := H
    replace H : ((yL.f k t407 t408 t409 t415 t416 t417).bind fun t420 => (if t420 = true then (some true) else (none))) = some r := H
    have A13 := zB.mk A130
    clear A130
    replace H := Option.bind_eq_some_iff.mp H
    obtain ⟨t420, A140, H⟩ := H
    replace H : (if t420 = true then (some true) else (none)) = some r := H
    have A14 := zB.mk A140
    clear A140
    by_cases c15 : t420 = true
    ·
     subst c15
     have H1 : (some true) = some r := by rw [if_pos rfl] at H; exact H
     clear H
     have H := H1
     clear H1
     obtain rfl := Option.some.inj H
     go_enter Try.func6, Try.ntmps6
     try go_wp2_with (first | ((with_reducible refine zP (N := 1) rfl ?_); refine zO ?hg (N := 1) ?hd (cs := #[.int .i64 a0_0, .int .i64 a0_1, .slice A0_2 l0_2.length c0_2]) (t := 24) ?hr ?_; (case hd => rfl); (case hg => rfl); (case hr => first | (go_simp; done) | (go_simp; rfl)); intro gb398 hg w16 hbox hb; have n0_ := zB.mk (zK (by repeat (first | (with_reducible first | exact HB.out | apply zF | apply zA | apply zE) | exact HB.out)) hb); have n1_ := zB.mk (hbox); have n2_ := zB.mk ((by rw [hg]; exact (zM (by repeat (first | (with_reducible first | exact HB.out | apply zF | apply zA | apply zE) | exact HB.out))) : w.heap.size ≤ gb398)); have n3_ := n2_; clear HB; have HB := n0_; have BK398 := n1_; have GW398 := n2_; have GE398 := n3_; clear n0_ n1_ n2_ n3_; clear hb hbox hg; have hcz17_0 : w16.cell? ⟨gb398, 0, none⟩ = some (.int .i64 a0_0) := zJ BK398.out 0; have hcz17_1 : w16.cell? ⟨gb398, 1, none⟩ = some (.int .i64 a0_1) := zJ BK398.out 1; have hcz17_2 : w16.cell? ⟨gb398, 2, none⟩ = some (.slice A0_2 l0_2.length c0_2) := zJ BK398.out 2; have hfz17_0 := zI BK398.out 0; have hfz17_1 := zI BK398.out 1; have hfz17_2 := zI BK398.out 2) | ((with_reducible refine zR (f := 15) rfl ?_); refine zV (some 11) rfl rfl Try.func15 (by kernel_rfl) rfl #[.agg #[.int .i64 a0_0, .int .i64 a0_1, .slice A0_2 l0_2.length c0_2], .int .i64 1048576] rfl (by (try simp only [List.map_toArray, List.map_cons, List.map_nil]); first | done | rfl) ?_; (with_reducible refine (yX.calls a0_0 a0_1 _ _ l0_2 1048576 t399 _ ?side1 ?side2 A2.out).mono ?_); (case side1 => repeat (first | exact (Kd.C_below HR0_2.out HB.out) | (with_reducible refine Kd.C_alloc ?_ _) | (with_reducible refine Kd.C_drewN ?_ _) | (with_reducible refine Kd.C_drew ?_))); (case side2 => exact HC0_2.out); rintro e w18 ⟨rfl, hb⟩; refine ⟨_, rfl, ?_⟩; have n0_ := zB.mk (zN (g := gb398) (o := .cells #[.int .i64 a0_0, .int .i64 a0_1, .slice A0_2 l0_2.length c0_2] 24 (0, 0)) (by (with_reducible repeat (first | refine zC ?_ _ | refine zG ?_ | refine zD ?_ _)); exact BK398.out) hb); have n1_ := zB.mk (zK (by repeat (first | (with_reducible first | exact HB.out | apply zF | apply zA | apply zE | refine zH ?_ GE398.out) | exact HB.out)) hb); clear BK398; clear HB; have BK398 := n0_; have HB := n1_; clear n0_ n1_; (try clear hb); have hcz19_0 : w18.cell? ⟨gb398, 0, none⟩ = some (.int .i64 a0_0) := zJ BK398.out 0; have hcz19_1 : w18.cell? ⟨gb398, 1, none⟩ = some (.int .i64 a0_1) := zJ BK398.out 1; have hcz19_2 : w18.cell? ⟨gb398, 2, none⟩ = some (.slice A0_2 l0_2.length c0_2) := zJ BK398.out 2; have hfz19_0 := zI BK398.out 0; have hfz19_1 := zI BK398.out 1; have hfz19_2 := zI BK398.out 2) | ((with_reducible refine zR (f := 17) rfl ?_); refine zV (some 16) rfl rfl Try.func17 (by kernel_rfl) rfl #[.agg #[.int .i64 a0_0, .int .i64 a0_1, .slice A0_2 l0_2.length c0_2]] rfl (by (try simp only [List.map_toArray, List.map_cons, List.map_nil]); first | done | rfl) ?_; (with_reducible refine (yK.calls k a0_0 a0_1 _ _ l0_2 t400 t401 t402 _ ?side1 ?side2 A7.out).mono ?_); (case side1 => repeat (first | exact (Kd.C_below HR0_2.out HB.out) | (with_reducible refine Kd.C_alloc ?_ _) | (with_reducible refine Kd.C_drewN ?_ _) | (with_reducible refine Kd.C_drew ?_))); (case side2 => exact HC0_2.out); rintro e w20 ⟨v403, rfl, ho0, hb⟩; refine ⟨_, rfl, ?_⟩; have n0_ := zB.mk (Kd.R_lower ho0 (zM (by repeat (first | (with_reducible first | exact HB.out | apply zF | apply zA | apply zE | refine zH ?_ GE398.out) | exact HB.out)))); have n1_ := zB.mk (zN (g := gb398) (o := .cells #[.int .i64 a0_0, .int .i64 a0_1, .slice A0_2 l0_2.length c0_2] 24 (0, 0)) (by (with_reducible repeat (first | refine zC ?_ _ | refine zG ?_ | refine zD ?_ _)); exact BK398.out) hb); have n2_ := zB.mk (zK (by repeat (first | (with_reducible first | exact HB.out | apply zF | apply zA | apply zE | refine zH ?_ GE398.out) | exact HB.out)) hb); clear BK398; clear HB; have HO404 := n0_; have BK398 := n1_; have HB := n2_; clear n0_ n1_ n2_; (try clear hb); (try clear ho0); obtain ⟨Ao21, co21, eo21⟩ := Kd.R_slice HO404.out; subst eo21) | ((with_reducible refine zR (f := 27) rfl ?_); refine zV (some 17) rfl rfl Try.func27 (by kernel_rfl) rfl #[.agg #[.int .i64 t400, .int .i64 t401, .slice Ao21 t402.length co21]] rfl (by (try simp only [List.map_toArray, List.map_cons, List.map_nil]); first | done | rfl) ?_; (with_reducible refine (zX.calls k t400 t401 _ _ t402 t405 t406 _ ?side1 ?side2 A8.out).mono ?_); (case side1 => repeat (first | exact (Kd.R_reads' HO404.out).2.2 | (with_reducible refine Kd.C_alloc ?_ _) | (with_reducible refine Kd.C_drewN ?_ _) | (with_reducible refine Kd.C_drew ?_))); (case side2 => exact (Kd.R_reads' HO404.out).2.1); rintro e w22 ⟨rfl, hb⟩; refine ⟨_, rfl, ?_⟩; have n0_ := zB.mk (Kd.R_below (by (with_reducible repeat (first | apply Kd.R_alloc | apply Kd.R_drewN | apply Kd.R_drew)); exact HO404.out) hb); have n1_ := zB.mk (zN (g := gb398) (o := .cells #[.int .i64 a0_0, .int .i64 a0_1, .slice A0_2 l0_2.length c0_2] 24 (0, 0)) (by (with_reducible repeat (first | refine zC ?_ _ | refine zG ?_ | refine zD ?_ _)); exact BK398.out) hb); have n2_ := zB.mk (zK (by repeat (first | (with_reducible first | exact HB.out | apply zF | apply zA | apply zE | refine zH ?_ GE398.out) | exact HB.out)) hb); clear HO404; clear BK398; clear HB; have HO404 := n0_; have BK398 := n1_; have HB := n2_; clear n0_ n1_ n2_; (try clear hb); have hcz23_0 : w22.cell? ⟨gb398, 0, none⟩ = some (.int .i64 a0_0) := zJ BK398.out 0; have hcz23_1 : w22.cell? ⟨gb398, 1, none⟩ = some (.int .i64 a0_1) := zJ BK398.out 1; have hcz23_2 : w22.cell? ⟨gb398, 2, none⟩ = some (.slice A0_2 l0_2.length c0_2) := zJ BK398.out 2; have hfz23_0 := zI BK398.out 0; have hfz23_1 := zI BK398.out 1; have hfz23_2 := zI BK398.out 2) | ((with_reducible refine zR (f := 17) rfl ?_); refine zV (some 21) rfl rfl Try.func17 (by kernel_rfl) rfl #[.agg #[.int .i64 a0_0, .int .i64 a0_1, .slice A0_2 l0_2.length c0_2]] rfl (by (try simp only [List.map_toArray, List.map_cons, List.map_nil]); first | done | rfl) ?_; (with_reducible refine (yK.calls k a0_0 a0_1 _ _ l0_2 t407 t408 t409 _ ?side1 ?side2 A9.out).mono ?_); (case side1 => repeat (first | exact (Kd.C_below HR0_2.out HB.out) | (with_reducible refine Kd.C_alloc ?_ _) | (with_reducible refine Kd.C_drewN ?_ _) | (with_reducible refine Kd.C_drew ?_))); (case side2 => exact HC0_2.out); rintro e w24 ⟨v410, rfl, ho0, hb⟩; refine ⟨_, rfl, ?_⟩; have n0_ := zB.mk (Kd.R_elder' (by (with_reducible repeat (first | apply Kd.R_alloc | apply Kd.R_drewN | apply Kd.R_drew)); exact HO404.out) (Kd.R_base ho0) hb); have n1_ := zB.mk (Kd.R_lower (Kd.R_new' ho0 (Kd.R_lt (by (with_reducible repeat (first | apply Kd.R_alloc | apply Kd.R_drewN | apply Kd.R_drew)); exact HO404.out))) (zM (by repeat (first | (with_reducible first | exact HB.out | apply zF | apply zA | apply zE | refine zH ?_ GE398.out) | exact HB.out)))); have n2_ := zB.mk (zN (g := gb398) (o := .cells #[.int .i64 a0_0, .int .i64 a0_1, .slice A0_2 l0_2.length c0_2] 24 (0, 0)) (by (with_reducible repeat (first | refine zC ?_ _ | refine zG ?_ | refine zD ?_ _)); exact BK398.out) hb); have n3_ := zB.mk (zK (by repeat (first | (with_reducible first | exact HB.out | apply zF | apply zA | apply zE | refine zH ?_ GE398.out) | exact HB.out)) hb); clear HO404; clear BK398; clear HB; have HO404 := n0_; have HO411 := n1_; have BK398 := n2_; have HB := n3_; clear n0_ n1_ n2_ n3_; (try clear hb); (try clear ho0)) | ((with_reducible refine zP (N := 6) rfl ?_); refine zO ?hg (N := 6) ?hd (cs := #[.int .i64 0, .int .i64 0, .slice none 0 0]) (t := 28) ?hr ?_; (case hd => rfl); (case hg => rfl); (case hr => first | (go_simp; done) | (go_simp; rfl)); intro gb412 hg w25 hbox hb; have n0_ := zB.mk (Kd.R_below (by (with_reducible repeat (first | apply Kd.R_alloc | apply Kd.R_drewN | apply Kd.R_drew)); exact HO404.out) hb); have n1_ := zB.mk (Kd.R_below (by (with_reducible repeat (first | apply Kd.R_alloc | apply Kd.R_drewN | apply Kd.R_drew)); exact HO411.out) hb); have n2_ := zB.mk (zN (g := gb398) (o := .cells #[.int .i64 a0_0, .int .i64 a0_1, .slice A0_2 l0_2.length c0_2] 24 (0, 0)) (by (with_reducible repeat (first | refine zC ?_ _ | refine zG ?_ | refine zD ?_ _)); exact BK398.out) hb); have n3_ := zB.mk (zK (by repeat (first | (with_reducible first | exact HB.out | apply zF | apply zA | apply zE | refine zH ?_ GE398.out) | exact HB.out)) hb); have n4_ := zB.mk (hbox); have n5_ := zB.mk ((by rw [hg]; exact (zM (by repeat (first | (with_reducible first | exact HB.out | apply zF | apply zA | apply zE | refine zH ?_ GE398.out) | exact HB.out))) : w.heap.size ≤ gb412)); have n6_ := n5_; have n7_ := zB.mk ((by rw [hg]; exact Nat.ne_of_lt (zQ (by (with_reducible repeat (first | refine zC ?_ _ | refine zG ?_ | refine zD ?_ _)); exact BK398.out)) : gb398 ≠ gb412)); have n8_ := zB.mk n7_.out.symm; clear HO404; clear HO411; clear BK398; clear HB; have HO404 := n0_; have HO411 := n1_; have BK398 := n2_; have HB := n3_; have BK412 := n4_; have GW412 := n5_; have GE412 := n6_; have NB398_412 := n7_; have NB412_398 := n8_; clear n0_ n1_ n2_ n3_ n4_ n5_ n6_ n7_ n8_; clear hb hbox hg; have hnb26 := NB412_398.out; have hnc26 := NB398_412.out; have hcz27_0 : w25.cell? ⟨gb412, 0, none⟩ = some (.int .i64 0) := zJ BK412.out 0; have hcz27_1 : w25.cell? ⟨gb412, 1, none⟩ = some (.int .i64 0) := zJ BK412.out 1; have hcz27_2 : w25.cell? ⟨gb412, 2, none⟩ = some (.slice none 0 0) := zJ BK412.out 2; have hfz27_0 := zI BK412.out 0; have hfz27_1 := zI BK412.out 1; have hfz27_2 := zI BK412.out 2; obtain ⟨Ao28, co28, eo28⟩ := Kd.R_slice HO411.out; subst eo28) | ((with_reducible refine zR (f := 28) rfl ?_); refine zV (some 24) rfl rfl Try.func28 (by kernel_rfl) rfl #[.agg #[.int .i64 t407, .int .i64 t408, .slice Ao28 t409.length co28]] rfl (by (try simp only [List.map_toArray, List.map_cons, List.map_nil]); first | done | rfl) ?_; (with_reducible refine (zW.calls k t407 t408 _ _ t409 t413 t414 _ ?side1 ?side2 A10.out).mono ?_); (case side1 => refine (Kd.R_reads' (e := 2) (base := w.heap.size) (ok := fun k_ => (True ∧ some k_ ≠ (.slice Ao21 t402.length co21 : Value).ownBlock)) (n := t409.length) (c := co28) ?_).2.2; exact (by (with_reducible repeat (first | apply Kd.R_alloc | apply Kd.R_drewN | apply Kd.R_drew)); exact (Kd.R_mono (Kd.R_far (p := ⟨gb412, 2, none⟩) (Kd.R_far (p := ⟨gb412, 1, none⟩) (Kd.R_far (p := ⟨gb412, 0, none⟩) (Kd.R_types HO411.out BK412.out (by decide)) (fun _ hk => hk.2) (.int .i64 t407)) (fun _ hk => hk.2) (.int .i64 t408)) (fun _ hk => hk.2) (.slice Ao28 t409.length co28)) (fun _ h_ => h_.1)))); (case side2 => exact (Kd.R_reads' HO411.out).2.1); rintro e w29 ⟨rfl, hb⟩; refine ⟨_, rfl, ?_⟩; have n0_ := zB.mk (Kd.R_below (by (with_reducible repeat (first | apply Kd.R_alloc | apply Kd.R_drewN | apply Kd.R_drew)); exact (Kd.R_mono (Kd.R_far (p := ⟨gb412, 2, none⟩) (Kd.R_far (p := ⟨gb412, 1, none⟩) (Kd.R_far (p := ⟨gb412, 0, none⟩) (Kd.R_types HO404.out BK412.out (by decide)) (fun _ hk => hk.2) (.int .i64 t407)) (fun _ hk => hk.2) (.int .i64 t408)) (fun _ hk => hk.2) (.slice Ao28 t409.length co28)) (fun _ h_ => h_.1))) hb); have n1_ := zB.mk (Kd.R_below (by (with_reducible repeat (first | apply Kd.R_alloc | apply Kd.R_drewN | apply Kd.R_drew)); exact (Kd.R_mono (Kd.R_far (p := ⟨gb412, 2, none⟩) (Kd.R_far (p := ⟨gb412, 1, none⟩) (Kd.R_far (p := ⟨gb412, 0, none⟩) (Kd.R_types HO411.out BK412.out (by decide)) (fun _ hk => hk.2) (.int .i64 t407)) (fun _ hk => hk.2) (.int .i64 t408)) (fun _ hk => hk.2) (.slice Ao28 t409.length co28)) (fun _ h_ => h_.1))) hb); have n2_ := zB.mk (zN (g := gb398) (o := .cells #[.int .i64 a0_0, .int .i64 a0_1, .slice A0_2 l0_2.length c0_2] 24 (0, 0)) (by (with_reducible repeat (first | refine zC ?_ _ | refine zG ?_ | refine zD ?_ _)); refine zL ?_ NB398_412.out _; (with_reducible repeat (first | refine zC ?_ _ | refine zG ?_ | refine zD ?_ _)); refine zL ?_ NB398_412.out _; (with_reducible repeat (first | refine zC ?_ _ | refine zG ?_ | refine zD ?_ _)); refine zL ?_ NB398_412.out _; (with_reducible repeat (first | refine zC ?_ _ | refine zG ?_ | refine zD ?_ _)); exact BK398.out) hb); have n3_ := zB.mk (zN (g := gb412) (o := .cells #[.int .i64 t407, .int .i64 t408, .slice Ao28 t409.length co28] 28 (0, 0)) (by (with_reducible repeat (first | refine zC ?_ _ | refine zG ?_ | refine zD ?_ _)); refine blk_put (cs := #[.int .i64 t407, .int .i64 t408, .slice none 0 0]) ?_ 2 _ rfl; (with_reducible repeat (first | refine zC ?_ _ | refine zG ?_ | refine zD ?_ _)); refine blk_put (cs := #[.int .i64 t407, .int .i64 0, .slice none 0 0]) ?_ 1 _ rfl; (with_reducible repeat (first | refine zC ?_ _ | refine zG ?_ | refine zD ?_ _)); refine blk_put (cs := #[.int .i64 0, .int .i64 0, .slice none 0 0]) ?_ 0 _ rfl; (with_reducible repeat (first | refine zC ?_ _ | refine zG ?_ | refine zD ?_ _)); exact BK412.out) hb); have n4_ := zB.mk (zK (by repeat (first | (with_reducible first | exact HB.out | apply zF | apply zA | apply zE | refine zH ?_ GE398.out | refine zH ?_ GE412.out) | exact HB.out)) hb); clear HO404; clear HO411; clear BK398; clear BK412; clear HB; have HO404 := n0_; have HO411 := n1_; have BK398 := n2_; have BK412 := n3_; have HB := n4_; clear n0_ n1_ n2_ n3_ n4_; (try clear hb)))
     have n0_ := zB.mk (Kd.R_drew HO404.out)
     have n1_ := zB.mk (Kd.R_drew HO411.out)
     have n2_ := zB.mk (zG BK398.out)
     have n3_ := zB.mk (zG BK412.out)
     have n4_ := zB.mk (zE HB.out)
     clear HO404
     clear HO411
     clear BK398
     clear BK412
     clear HB
     have HO404 := n0_
     have HO411 := n1_
     have BK398 := n2_
     have BK412 := n3_
     have HB := n4_
     clear n0_ n1_ n2_ n3_ n4_
     refine start_ (n := 5) (S := fun w' => w'.cell? ⟨gb412, 0, none⟩ = some (.int .i64 t407) ∧ w'.cell? ⟨gb412, 1, none⟩ = some (.int .i64 t408) ∧ w'.cell? ⟨gb412, 2, none⟩ = some (.slice Ao28 t409.length co28) ∧ w'.cell? ⟨gb398, 0, none⟩ = some (.int .i64 a0_0) ∧ w'.cell? ⟨gb398, 1, none⟩ = some (.int .i64 a0_1) ∧ w'.cell? ⟨gb398, 2, none⟩ = some (.slice A0_2 l0_2.length c0_2)) (ds := []) #[false, false, false, false, false] (by kernel_rfl) rfl rfl ⟨zJ BK412.out 0, zJ BK412.out 1, zJ BK412.out 2, zJ BK398.out 0, zJ BK398.out 1, zJ BK398.out 2⟩ (fun hHeld => ?_)
     generalize w29.drew = w30 at HO404 HO411 BK398 BK412 HB hHeld ⊢
     refine take_ (i := 0) (N := some 35) (v := ?_) (a' := ?_) #[true, false, false, false, false] rfl rfl (by kernel_rfl) (fun _ _ _ h => h) (Or.inl ⟨by rfl, ?_⟩) hHeld ?_ ?_
     rotate_left
     ·
      rintro w' ⟨s0, s1, s2, s3, s4, s5⟩
      go_simp
      with_reducible rfl
     rotate_left
     ·
      go_simp
      rfl
     refine take_ (i := 1) (N := some 36) (v := ?_) (a' := ?_) #[true, true, false, false, false] rfl rfl (by kernel_rfl) (fun _ _ _ h => h) (Or.inl ⟨by rfl, ?_⟩) hHeld ?_ ?_
     rotate_left
     ·
      rintro w' ⟨s0, s1, s2, s3, s4, s5⟩
      go_simp
      with_reducible rfl
     rotate_left
     ·
      go_simp
      rfl
     refine one_ (i := 2) (N := some 37) #[true, true, true, false, false] rfl rfl (by kernel_rfl) (by decide) (fun K hK => ?_)
     refine goes_ Try.func17 (by kernel_rfl) rfl #[.agg #[.int .i64 a0_0, .int .i64 a0_1, .slice A0_2 l0_2.length c0_2]] (by rfl) rfl rfl (by (try simp only [List.map_toArray, List.map_cons, List.map_nil]); first | done | rfl) ?_
     with_reducible refine (yK.calls k a0_0 a0_1 _ _ l0_2 t415 t416 t417 _ ?side1 ?side2 A13.out).mono ?_
     (case side1 => repeat (first | exact (Kd.C_below HR0_2.out HB.out) | (with_reducible refine Kd.C_alloc ?_ _) | (with_reducible refine Kd.C_drewN ?_ _) | (with_reducible refine Kd.C_drew ?_)))
     (case side2 => exact HC0_2.out)
     rintro e w31 ⟨v418, rfl, ho0, hb⟩
     refine ⟨_, rfl, ?_⟩
     have n0_ := zB.mk (Kd.R_elder' (by (with_reducible repeat (first | apply Kd.R_alloc | apply Kd.R_drewN | apply Kd.R_drew)); exact HO404.out) (Kd.R_base ho0) hb)
     have n1_ := zB.mk (Kd.R_elder' (by (with_reducible repeat (first | apply Kd.R_alloc | apply Kd.R_drewN | apply Kd.R_drew)); exact HO411.out) (Kd.R_base ho0) hb)
     have n2_ := zB.mk (Kd.R_lower (Kd.R_new' (Kd.R_new' ho0 (Kd.R_lt (by (with_reducible repeat (first | apply Kd.R_alloc | apply Kd.R_drewN | apply Kd.R_drew)); exact HO404.out))) (Kd.R_lt (by (with_reducible repeat (first | apply Kd.R_alloc | apply Kd.R_drewN | apply Kd.R_drew)); exact HO411.out))) (zM (by repeat (first | (with_reducible first | exact HB.out | apply zF | apply zA | apply zE | refine zH ?_ GE398.out | refine zH ?_ GE412.out) | exact HB.out))))
     have n3_ := zB.mk (zN (g := gb398) (o := .cells #[.int .i64 a0_0, .int .i64 a0_1, .slice A0_2 l0_2.length c0_2] 24 (0, 0)) (by (with_reducible repeat (first | refine zC ?_ _ | refine zG ?_ | refine zD ?_ _)); exact BK398.out) hb)
     have n4_ := zB.mk (zN (g := gb412) (o := .cells #[.int .i64 t407, .int .i64 t408, .slice Ao28 t409.length co28] 28 (0, 0)) (by (with_reducible repeat (first | refine zC ?_ _ | refine zG ?_ | refine zD ?_ _)); exact BK412.out) hb)
     have n5_ := zB.mk (zK (by repeat (first | (with_reducible first | exact HB.out | apply zF | apply zA | apply zE | refine zH ?_ GE398.out | refine zH ?_ GE412.out) | exact HB.out)) hb)
     clear HO404
     clear HO411
     clear BK398
     clear BK412
     clear HB
     have HO404 := n0_
     have HO411 := n1_
     have HO419 := n2_
     have BK398 := n3_
     have BK412 := n4_
     have HB := n5_
     clear n0_ n1_ n2_ n3_ n4_ n5_
     (try clear hb)
     (try clear ho0)
     obtain ⟨Ao32, co32, eo32⟩ := Kd.R_slice HO419.out
     (first | subst eo32 | (injection eo32 with f1_ f2_ f3_; have f4_ := f1_.symm; have f5_ := f3_.symm; clear f1_ f2_ f3_; subst f4_; subst f5_))
     refine hK.out _ _ ⟨zJ BK412.out 0, zJ BK412.out 1, zJ BK412.out 2, zJ BK398.out 0, zJ BK398.out 1, zJ BK398.out 2⟩ (fun hHeld => ?_)
     clear hK K
     refine norm_ (a' := ?_) ?_ ?_
     rotate_left
     ·
      show Act.put _ (some 37) _ = _
      go_simp
      rfl
     refine one_ (i := 3) (N := some 38) #[true, true, true, true, false] rfl rfl (by kernel_rfl) (by decide) (fun K hK => ?_)
     refine goes_ Try.func19 (by kernel_rfl) rfl #[.agg #[.int .i64 t407, .int .i64 t408, .slice Ao28 t409.length co28], .agg #[.int .i64 t415, .int .i64 t416, .slice Ao32 t417.length co32]] (by rfl) rfl rfl (by (try simp only [List.map_toArray, List.map_cons, List.map_nil]); first | done | rfl) ?_
     with_reducible refine (yL.calls k t407 t408 _ _ t409 t415 t416 _ _ t417 true _ ?side1 ?side2 ?side3 ?side4 A14.out).mono ?_
     (case side1 => repeat (first | exact (Kd.R_reads' HO411.out).2.2 | (with_reducible refine Kd.C_alloc ?_ _) | (with_reducible refine Kd.C_drewN ?_ _) | (with_reducible refine Kd.C_drew ?_)))
     (case side2 => exact (Kd.R_reads' HO411.out).2.1)
     (case side3 => repeat (first | exact (Kd.R_reads' HO419.out).2.2 | (with_reducible refine Kd.C_alloc ?_ _) | (with_reducible refine Kd.C_drewN ?_ _) | (with_reducible refine Kd.C_drew ?_)))
     (case side4 => exact (Kd.R_reads' HO419.out).2.1)
     rintro e w33 ⟨rfl, hb⟩
     refine ⟨_, rfl, ?_⟩
     have n0_ := zB.mk (Kd.R_below (by (with_reducible repeat (first | apply Kd.R_alloc | apply Kd.R_drewN | apply Kd.R_drew)); exact HO404.out) hb)
     have n1_ := zB.mk (Kd.R_below (by (with_reducible repeat (first | apply Kd.R_alloc | apply Kd.R_drewN | apply Kd.R_drew)); exact HO411.out) hb)
     have n2_ := zB.mk (Kd.R_below (by (with_reducible repeat (first | apply Kd.R_alloc | apply Kd.R_drewN | apply Kd.R_drew)); exact HO419.out) hb)
     have n3_ := zB.mk (zN (g := gb398) (o := .cells #[.int .i64 a0_0, .int .i64 a0_1, .slice A0_2 l0_2.length c0_2] 24 (0, 0)) (by (with_reducible repeat (first | refine zC ?_ _ | refine zG ?_ | refine zD ?_ _)); exact BK398.out) hb)
     have n4_ := zB.mk (zN (g := gb412) (o := .cells #[.int .i64 t407, .int .i64 t408, .slice Ao28 t409.length co28] 28 (0, 0)) (by (with_reducible repeat (first | refine zC ?_ _ | refine zG ?_ | refine zD ?_ _)); exact BK412.out) hb)
     have n5_ := zB.mk (zK (by repeat (first | (with_reducible first | exact HB.out | apply zF | apply zA | apply zE | refine zH ?_ GE398.out | refine zH ?_ GE412.out) | exact HB.out)) hb)
     clear HO404
     clear HO411
     clear HO419
     clear BK398
     clear BK412
     clear HB
     have HO404 := n0_
     have HO411 := n1_
     have HO419 := n2_
     have BK398 := n3_
     have BK412 := n4_
     have HB := n5_
     clear n0_ n1_ n2_ n3_ n4_ n5_
     (try clear hb)
     refine hK.out _ _ ⟨zJ BK412.out 0, zJ BK412.out 1, zJ BK412.out 2, zJ BK398.out 0, zJ BK398.out 1, zJ BK398.out 2⟩ (fun hHeld => ?_)
     clear hK K
     refine norm_ (a' := ?_) ?_ ?_
     rotate_left
     ·
      show Act.put _ (some 38) _ = _
      go_simp
      rfl
     refine pure_ (i := 4) (N := some 39) (v := ?_) (a' := ?_) #[true, true, true, true, true] rfl rfl (by kernel_rfl) (fun _ _ _ h => h) (Or.inl ⟨by rfl, ?_⟩) ?_ ?_
     rotate_left
     ·
      intro w'
      go_simp
      with_reducible rfl
     rotate_left
     ·
      go_simp
      rfl
     refine done_ (by kernel_rfl) ?_
     try go_wp2
     go_ret
     exact ⟨by first | rfl | (simp [*, errW_none, errW_some] <;> rfl), by repeat (first | (with_reducible first | exact HB.out | apply zF | apply zA | apply zE | refine zH ?_ GE398.out | refine zH ?_ GE412.out) | exact HB.out)⟩
    ·
     replace c15 := Bool.eq_false_iff.mpr c15
     subst c15
     have H1 : (none) = some r := by rw [if_neg (show ¬ (false = true) by decide)] at H; exact H
     clear H
     have H := H1
     clear H1
     exact absurd H (by simp)
   ·
    rw [if_neg c12] at H
    exact absurd H (by simp)
  ·
   rw [if_neg c11] at H
   exact absurd H (by simp)
end Go.Proofs.Ytjjockhekaccnaa.X
