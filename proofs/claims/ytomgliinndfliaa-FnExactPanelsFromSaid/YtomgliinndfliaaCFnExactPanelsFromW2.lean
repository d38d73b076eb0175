/- Part of the proof of the law FnExactPanelsFrom: each function of the code computes what its plain function says. No condition of its own. -/
import Derived.Test.YtomgliinndfliaaCFnExactPanelsFromW1
set_option maxHeartbeats 8000000
set_option maxRecDepth 100000
namespace Go.Proofs.Ytomgliinndfliaa.X
open Go.RowKit Go.Proofs.YtomgliinndfliaaW.PrintWords Go.Proofs.YtomgliinndfliaaW.PrintLast Go.Proofs.YtomgliinndfliaaW.PrintMore
attribute [local go_sem] max2_int min2_int max_two min_two max_three min_three max_four min_four   -- for this text's walks alone
set_option linter.unusedVariables false
set_option linter.unusedSimpArgs false
def yN.T1 : Bool × List (List Nat × List Nat) := (true, [([], []), ([], []), ([1], [1]), ([2, 2], [2]), ([3], [3]), ([4, 3, 3], [3, 4]), ([3, 5], [3, 5]), ([6, 5], [6]), ([7], [7]), ([8, 7, 7], [7, 8]), ([7, 9], [7, 9]), ([0, 10, 9], [0, 10]), ([11], [11]), ([12], [12]), ([12], [12]), ([], []), ([15, 13, 11, 0, 1, 2, 3, 4, 5, 6, 7, 8, 9, 10, 11, 12, 13, 15], [13, 15]), ([14, 16, 0, 1, 2, 3, 4, 5, 6, 7, 8, 9, 10, 11, 12, 13, 14, 15, 16], [14])])
def yN.B1 : List Nat := [0, 0, 2, 6, 14, 30, 62, 126, 254, 510, 1022, 2047, 4095, 8191, 8191, 0, 49151, 131071]
theorem yN.tab1 : rtab .any (opsOf Try.f54 1) = yN.T1 := by kernel_rfl
theorem yN.bits1 : waitsOk yN.T1.2 yN.B1 = true := by kernel_rfl
theorem yN.calls (k : Nat) (a0_0 : Int) (a0_1 : Int) (a0_2 : Int) (a0_3 : Int) (A0_4 : Option Addr) (c0_4 : Nat) (l0_4 : List Int) (a1 : Int) (a2 : Int) (a3 : Int) (r1 : Int) (r2 : Int) (w : World) (hr0_4 : Kd.C (Kd.int .i64) w A0_4 l0_4.length l0_4) (hc0_4 : l0_4.length ≤ c0_4) (h : yN.f k a0_0 a0_1 a0_2 a0_3 l0_4 a1 a2 a3 = some (r1, r2)) :
  Calls Try.prog 54 #[.agg #[.int .i64 a0_0, .int .i64 a0_1, .int .i64 a0_2, .int .i64 a0_3, .slice A0_4 l0_4.length c0_4], .int .i64 a1, .int .i64 a2, .int .i64 a3] w fun e w' => e = .returned (.tuple #[.int .i64 r1, .int .i64 r2]) ∧ Below w.heap.size w w' := by
 have hu30 := Try.underlying30
 have hu28 := Try.underlying28
 have HR0_4 := zC.mk hr0_4
 have HC0_4 := zC.mk hc0_4
 clear hr0_4 hc0_4
 have HB := zC.mk (Below.refl w.heap.size w)
 have H : ((xG.f a1 1 1000).bind fun t1792 => (if t1792 = true then ((xG.f a2 1 1000).bind fun t1793 => (if t1793 = true then ((xG.f a3 0 100000).bind fun t1794 => ((yQ.f k a0_0 a0_1 a0_2 a0_3 l0_4 t1794).bind fun bt1795 => (if bt1795.2.2.2 = 0 then ((yX.f k bt1795.1 bt1795.2.1 bt1795.2.2.1 a1).bind fun bt1800 => (if bt1800.2 = true then ((yP.f k bt1795.1 bt1795.2.1 bt1795.2.2.1).bind fun t1802 => ((yS.f k t1802 bt1800.1 a2 100).bind fun t1803 => (yN.l0 k a2 a3 t1803 0))) else (some (0, 4)))) else (some (0, bt1795.2.2.2))))) else ((yQ.f k a0_0 a0_1 a0_2 a0_3 l0_4 false).bind fun bt1807 => (if bt1807.2.2.2 = 0 then (none) else (some (0, bt1807.2.2.2)))))) else ((yQ.f k a0_0 a0_1 a0_2 a0_3 l0_4 false).bind fun bt1812 => (if bt1812.2.2.2 = 0 then (none) else (some (0, bt1812.2.2.2)))))) = some (r1, r2) := h
 clear h
 replace H := Option.bind_eq_some_iff.mp H
 obtain ⟨t1792, A50, H⟩ := H
 replace H : (if t1792 = true then ((xG.f a2 1 1000).bind fun t1793 => (if t1793 = true then ((xG.f a3 0 100000).bind fun t1794 => ((yQ.f k a0_0 a0_1 a0_2 a0_3 l0_4 t1794).bind fun bt1795 => (if bt1795.2.2.2 = 0 then ((yX.f k bt1795.1 bt1795.2.1 bt1795.2.2.1 a1).bind fun bt1800 => (if bt1800.2 = true then ((yP.f k bt1795.1 bt1795.2.1 bt1795.2.2.1).bind fun t1802 => ((yS.f k t1802 bt1800.1 a2 100).bind fun t1803 => (yN.l0 k a2 a3 t1803 0))) else (some (0, 4)))) else (some (0, bt1795.2.2.2))))) else ((yQ.f k a0_0 a0_1 a0_2 a0_3 l0_4 false).bind fun bt1807 => (if bt1807.2.2.2 = 0 then (none) else (some (0, bt1807.2.2.2)))))) else ((yQ.f k a0_0 a0_1 a0_2 a0_3 l0_4 false).bind fun bt1812 => (if bt1812.2.2.2 = 0 then (none) else (some (0, bt1812.2.2.2))))) = some (r1, r2) := H
 have A5 := zC.mk A50
 clear A50
 by_cases c6 : t1792 = true
 ·
  subst c6
  have H1 : ((xG.f a2 1 1000).bind fun t1793 => (if t1793 = true then ((xG.f a3 0 100000).bind fun t1794 => ((yQ.f k a0_0 a0_1 a0_2 a0_3 l0_4 t1794).bind fun bt1795 => (if bt1795.2.2.2 = 0 then ((yX.f k bt1795.1 bt1795.2.1 bt1795.2.2.1 a1).bind fun bt1800 => (if bt1800.2 = true then ((yP.f k bt1795.1 bt1795.2.1 bt1795.2.2.1).bind fun t1802 => ((yS.f k t1802 bt1800.1 a2 100).bind fun t1803 => (yN.l0 k a2 a3 t1803 0))) else (some (0, 4)))) else (some (0, bt1795.2.2.2))))) else ((yQ.f k a0_0 a0_1 a0_2 a0_3 l0_4 false).bind fun bt1807 => (if bt1807.2.2.2 = 0 then (none) else (some (0, bt1807.2.2.2)))))) = some (r1, r2) := by rw [if_pos rfl] at H; exact H
  clear H
  have H := H1
  clear H1
  replace H := Option.bind_eq_some_iff.mp H
  obtain ⟨t1793, A70, H⟩ := H
  replace H : (if t1793 = true then ((xG.f a3 0 100000).bind fun t1794 => ((yQ.f k a0_0 a0_1 a0_2 a0_3 l0_4 t1794).bind fun bt1795 => (if bt1795.2.2.2 = 0 then ((yX.f k bt1795.1 bt1795.2.1 bt1795.2.2.1 a1).bind fun bt1800 => (if bt1800.2 = true then ((yP.f k bt1795.1 bt1795.2.1 bt1795.2.2.1).bind fun t1802 => ((yS.f k t1802 bt1800.1 a2 100).bind fun t1803 => (yN.l0 k a2 a3 t1803 0))) else (some (0, 4)))) else (some (0, bt1795.2.2.2))))) else ((yQ.f k a0_0 a0_1 a0_2 a0_3 l0_4 false).bind fun bt1807 => (if bt1807.2.2.2 = 0 then (none) else (some (0, bt1807.2.2.2))))) = some (r1, r2) := H
  have A7 := zC.mk A70
  clear A70
  by_cases c8 : t1793 = true
  ·
   subst c8
   have H1 : ((xG.f a3 0 100000).bind fun t1794 => ((yQ.f k a0_0 a0_1 a0_2 a0_3 l0_4 t1794).bind fun bt1795 => (if bt1795.2.2.2 = 0 then ((yX.f k bt1795.1 bt1795.2.1 bt1795.2.2.1 a1).bind fun bt1800 => (if bt1800.2 = true then ((yP.f k bt1795.1 bt1795.2.1 bt1795.2.2.1).bind fun t1802 => ((yS.f k t1802 bt1800.1 a2 100).bind fun t1803 => (yN.l0 k a2 a3 t1803 0))) else (some (0, 4)))) else (some (0, bt1795.2.2.2))))) = some (r1, r2) := by rw [if_pos rfl] at H; exact H
   clear H
   have H := H1
   clear H1
   replace H := Option.bind_eq_some_iff.mp H
   obtain ⟨t1794, A90, H⟩ := H
   replace H : ((yQ.f k a0_0 a0_1 a0_2 a0_3 l0_4 t1794).bind fun bt1795 => (if bt1795.2.2.2 = 0 then ((yX.f k bt1795.1 bt1795.2.1 bt1795.2.2.1 a1).bind fun bt1800 => (if bt1800.2 = true then ((yP.f k bt1795.1 bt1795.2.1 bt1795.2.2.1).bind fun t1802 => ((yS.f k t1802 bt1800.1 a2 100).bind fun t1803 => (yN.l0 k a2 a3 t1803 0))) else (some (0, 4)))) else (some (0, bt1795.2.2.2)))) = some (r1, r2) := H
   have A9 := zC.mk A90
   clear A90
   replace H := Option.bind_eq_some_iff.mp H
   obtain ⟨⟨t1795, t1796, t1797, t1798⟩, A100, H⟩ := H
   replace H : (if t1798 = 0 then ((yX.f k t1795 t1796 t1797 a1).bind fun bt1800 => (if bt1800.2 = true then ((yP.f k t1795 t1796 t1797).bind fun t1802 => ((yS.f k t1802 bt1800.1 a2 100).bind fun t1803 => (yN.l0 k a2 a3 t1803 0))) else (some (0, 4)))) else (some (0, t1798))) = some (r1, r2) := H
   have A10 := zC.mk A100
   clear A100
   have HX11 := zC.mk H
   clear H
   go_enter Try.func54, Try.ntmps54
   try go_wp2_with (first | ((with_reducible refine zP (N := 4) rfl ?_); refine zO ?hg (N := 4) ?hd (cs := #[.int .i64 a0_0, .int .i64 a0_1, .int .i64 a0_2, .int .i64 a0_3, .slice A0_4 l0_4.length c0_4]) (t := 30) ?hr ?_; (case hd => rfl); (case hg => rfl); (case hr => first | (go_simp; done) | (go_simp; rfl)); intro gb1791 hg w12 hbox hb; have n0_ := zC.mk (zL (by repeat (first | (with_reducible first | exact HB.out | apply zG | apply zA | apply zF) | exact HB.out)) hb); have n1_ := zC.mk (hbox); have n2_ := zC.mk ((by rw [hg]; exact (zM (by repeat (first | (with_reducible first | exact HB.out | apply zG | apply zA | apply zF) | exact HB.out))) : w.heap.size ≤ gb1791)); have n3_ := n2_; clear HB; have HB := n0_; have BK1791 := n1_; have GW1791 := n2_; have GE1791 := n3_; clear n0_ n1_ n2_ n3_; clear hb hbox hg))
   have n0_ := zC.mk (zI BK1791.out)
   have n1_ := zC.mk (zF HB.out)
   clear BK1791
   clear HB
   have BK1791 := n0_
   have HB := n1_
   clear n0_ n1_
   refine start_ (n := 18) (S := fun w' => w'.cell? ⟨gb1791, 0, none⟩ = some (.int .i64 a0_0) ∧ w'.cell? ⟨gb1791, 1, none⟩ = some (.int .i64 a0_1) ∧ w'.cell? ⟨gb1791, 2, none⟩ = some (.int .i64 a0_2) ∧ w'.cell? ⟨gb1791, 3, none⟩ = some (.int .i64 a0_3) ∧ w'.cell? ⟨gb1791, 4, none⟩ = some (.slice A0_4 l0_4.length c0_4)) (ds := []) #[false, false, false, false, false, false, false, false, false, false, false, false, false, false, false, false, false, false] (by kernel_rfl) rfl rfl ⟨zB BK1791.out 0, zB BK1791.out 1, zB BK1791.out 2, zB BK1791.out 3, zB BK1791.out 4⟩ (fun hHeld => ?_); refine yE yN.tab1 yN.bits1 (fun HT_ HW_ => ?_)
   generalize w12.drew = w13 at BK1791 HB hHeld ⊢
   refine zT (i := 1) (N := some 18) (v := ?_) (a' := ?_) #[false, true, false, false, false, false, false, false, false, false, false, false, false, false, false, false, false, false] rfl rfl (zN HT_.out (by kernel_rfl)) (fun _ _ _ h => h) (Or.inl ⟨by rfl, ?_⟩) ?_ ?_
   rotate_left
   ·
    intro w'
    go_simp
    with_reducible rfl
   rotate_left
   ·
    simp only [Act.put, List.setIfInBounds_toArray, List.set_cons_zero, List.set_cons_succ, zQ, zR]
    rfl
   refine yC (i := 0) (N := some 17) (v := ?_) (a' := ?_) #[true, true, false, false, false, false, false, false, false, false, false, false, false, false, false, false, false, false] rfl rfl (zY HT_.out HW_.out (by kernel_rfl)) (fun _ _ _ h => h) (Or.inl ⟨by rfl, ?_⟩) hHeld ?_ ?_
   rotate_left
   ·
    rintro w' ⟨s0, s1, s2, s3, s4⟩
    go_simp
    with_reducible rfl
   rotate_left
   ·
    simp only [Act.put, List.setIfInBounds_toArray, List.set_cons_zero, List.set_cons_succ, zQ, zR]
    rfl
   refine join_ (σ := Nat) 2 #[true, true, true, true, true, true, true, true, true, true, true, true, true, true, true, true, false, false] (fun s_ => [(19, .bool true), (22, .bool true), (26, .bool t1794), (28, .tuple #[.agg #[.int .i64 t1795, .int .i64 t1796, .int .i64 t1797], .int .i64 t1798]), (10, .pointer (some ⟨s_, 0, none⟩)), (20, .bool true), (21, .int .i64 a2), (23, .bool true), (24, .bool true), (25, .int .i64 a3), (27, .bool t1794), (16, .tuple #[.agg #[.int .i64 t1795, .int .i64 t1796, .int .i64 t1797], .int .i64 t1798]), (29, .agg #[.int .i64 t1795, .int .i64 t1796, .int .i64 t1797]), (30, .int .i64 t1798)]) (fun s_ w' => (w'.cell? ⟨gb1791, 0, none⟩ = some (.int .i64 a0_0) ∧ w'.cell? ⟨gb1791, 1, none⟩ = some (.int .i64 a0_1) ∧ w'.cell? ⟨gb1791, 2, none⟩ = some (.int .i64 a0_2) ∧ w'.cell? ⟨gb1791, 3, none⟩ = some (.int .i64 a0_3) ∧ w'.cell? ⟨gb1791, 4, none⟩ = some (.slice A0_4 l0_4.length c0_4)) ∧ (w'.heap[gb1791]? = some (.cells #[.int .i64 a0_0, .int .i64 a0_1, .int .i64 a0_2, .int .i64 a0_3, .slice A0_4 l0_4.length c0_4] 30 (0, 0))) ∧ (w'.heap[s_]? = some (.cells #[.int .i64 0, .int .i64 0, .int .i64 0] 28 (0, 0))) ∧ (w.heap.size ≤ s_) ∧ (w.heap.size ≤ s_) ∧ (gb1791 ≠ s_) ∧ (s_ ≠ gb1791) ∧ (Below w.heap.size w w')) ?_ ?_
   rotate_left
   ·
    intro hJ2_5_9_11_15
    refine join_ (σ := Unit) 3 #[true, true, true, true, true, true, true, true, true, true, true, true, true, true, true, false, false, false] (fun s_ => [(19, .bool true), (22, .bool true), (26, .bool t1794), (28, .tuple #[.agg #[.int .i64 t1795, .int .i64 t1796, .int .i64 t1797], .int .i64 t1798]), (20, .bool true), (21, .int .i64 a2), (23, .bool true), (24, .bool true), (25, .int .i64 a3), (27, .bool t1794), (16, .tuple #[.agg #[.int .i64 t1795, .int .i64 t1796, .int .i64 t1797], .int .i64 t1798]), (29, .agg #[.int .i64 t1795, .int .i64 t1796, .int .i64 t1797]), (30, .int .i64 t1798)]) (fun s_ w' => (w'.cell? ⟨gb1791, 0, none⟩ = some (.int .i64 a0_0) ∧ w'.cell? ⟨gb1791, 1, none⟩ = some (.int .i64 a0_1) ∧ w'.cell? ⟨gb1791, 2, none⟩ = some (.int .i64 a0_2) ∧ w'.cell? ⟨gb1791, 3, none⟩ = some (.int .i64 a0_3) ∧ w'.cell? ⟨gb1791, 4, none⟩ = some (.slice A0_4 l0_4.length c0_4)) ∧ (w'.heap[gb1791]? = some (.cells #[.int .i64 a0_0, .int .i64 a0_1, .int .i64 a0_2, .int .i64 a0_3, .slice A0_4 l0_4.length c0_4] 30 (0, 0))) ∧ (Below w.heap.size w w')) ?_ ?_
    rotate_left
    ·
     intro hJ2_5_9_11
     refine join_ (σ := Nat) 6 #[true, true, true, true, true, true, true, true, true, true, true, false, false, false, false, true, false, false] (fun s_ => [(19, .bool true), (22, .bool true), (26, .bool t1794), (10, .pointer (some ⟨s_, 0, none⟩)), (20, .bool true), (21, .int .i64 a2), (23, .bool true), (24, .bool true), (25, .int .i64 a3), (27, .bool t1794)]) (fun s_ w' => (w'.cell? ⟨gb1791, 0, none⟩ = some (.int .i64 a0_0) ∧ w'.cell? ⟨gb1791, 1, none⟩ = some (.int .i64 a0_1) ∧ w'.cell? ⟨gb1791, 2, none⟩ = some (.int .i64 a0_2) ∧ w'.cell? ⟨gb1791, 3, none⟩ = some (.int .i64 a0_3) ∧ w'.cell? ⟨gb1791, 4, none⟩ = some (.slice A0_4 l0_4.length c0_4)) ∧ (w'.heap[gb1791]? = some (.cells #[.int .i64 a0_0, .int .i64 a0_1, .int .i64 a0_2, .int .i64 a0_3, .slice A0_4 l0_4.length c0_4] 30 (0, 0))) ∧ (w'.heap[s_]? = some (.cells #[.int .i64 0, .int .i64 0, .int .i64 0] 28 (0, 0))) ∧ (w.heap.size ≤ s_) ∧ (w.heap.size ≤ s_) ∧ (gb1791 ≠ s_) ∧ (s_ ≠ gb1791) ∧ (Below w.heap.size w w')) ?_ ?_
     rotate_left
     ·
      intro hJ2_5_9_15
      refine join_ (σ := Unit) 7 #[true, true, true, true, true, true, true, true, true, true, true, false, false, false, false, false, false, false] (fun s_ => [(19, .bool true), (22, .bool true), (26, .bool t1794), (20, .bool true), (21, .int .i64 a2), (23, .bool true), (24, .bool true), (25, .int .i64 a3), (27, .bool t1794)]) (fun s_ w' => (w'.cell? ⟨gb1791, 0, none⟩ = some (.int .i64 a0_0) ∧ w'.cell? ⟨gb1791, 1, none⟩ = some (.int .i64 a0_1) ∧ w'.cell? ⟨gb1791, 2, none⟩ = some (.int .i64 a0_2) ∧ w'.cell? ⟨gb1791, 3, none⟩ = some (.int .i64 a0_3) ∧ w'.cell? ⟨gb1791, 4, none⟩ = some (.slice A0_4 l0_4.length c0_4)) ∧ (w'.heap[gb1791]? = some (.cells #[.int .i64 a0_0, .int .i64 a0_1, .int .i64 a0_2, .int .i64 a0_3, .slice A0_4 l0_4.length c0_4] 30 (0, 0))) ∧ (Below w.heap.size w w')) ?_ ?_
      rotate_left
      ·
       intro hJ2_5_9
       refine join_ (σ := Nat) 8 #[true, true, true, true, true, true, true, true, true, false, false, false, false, false, false, true, false, false] (fun s_ => [(19, .bool true), (22, .bool true), (10, .pointer (some ⟨s_, 0, none⟩)), (20, .bool true), (21, .int .i64 a2), (23, .bool true), (24, .bool true), (25, .int .i64 a3)]) (fun s_ w' => (w'.cell? ⟨gb1791, 0, none⟩ = some (.int .i64 a0_0) ∧ w'.cell? ⟨gb1791, 1, none⟩ = some (.int .i64 a0_1) ∧ w'.cell? ⟨gb1791, 2, none⟩ = some (.int .i64 a0_2) ∧ w'.cell? ⟨gb1791, 3, none⟩ = some (.int .i64 a0_3) ∧ w'.cell? ⟨gb1791, 4, none⟩ = some (.slice A0_4 l0_4.length c0_4)) ∧ (w'.heap[gb1791]? = some (.cells #[.int .i64 a0_0, .int .i64 a0_1, .int .i64 a0_2, .int .i64 a0_3, .slice A0_4 l0_4.length c0_4] 30 (0, 0))) ∧ (w'.heap[s_]? = some (.cells #[.int .i64 0, .int .i64 0, .int .i64 0] 28 (0, 0))) ∧ (w.heap.size ≤ s_) ∧ (w.heap.size ≤ s_) ∧ (gb1791 ≠ s_) ∧ (s_ ≠ gb1791) ∧ (Below w.heap.size w w')) ?_ ?_
       rotate_left
       ·
        intro hJ2_5_15
        refine join_ (σ := Unit) 9 #[true, true, true, true, true, true, true, true, true, false, false, false, false, false, false, false, false, false] (fun s_ => [(19, .bool true), (22, .bool true), (20, .bool true), (21, .int .i64 a2), (23, .bool true), (24, .bool true), (25, .int .i64 a3)]) (fun s_ w' => (w'.cell? ⟨gb1791, 0, none⟩ = some (.int .i64 a0_0) ∧ w'.cell? ⟨gb1791, 1, none⟩ = some (.int .i64 a0_1) ∧ w'.cell? ⟨gb1791, 2, none⟩ = some (.int .i64 a0_2) ∧ w'.cell? ⟨gb1791, 3, none⟩ = some (.int .i64 a0_3) ∧ w'.cell? ⟨gb1791, 4, none⟩ = some (.slice A0_4 l0_4.length c0_4)) ∧ (w'.heap[gb1791]? = some (.cells #[.int .i64 a0_0, .int .i64 a0_1, .int .i64 a0_2, .int .i64 a0_3, .slice A0_4 l0_4.length c0_4] 30 (0, 0))) ∧ (Below w.heap.size w w')) ?_ ?_
        rotate_left
        ·
         intro hJ2_5
         refine join_ (σ := Nat) 12 #[true, true, true, true, true, false, false, false, false, false, false, false, false, false, false, true, false, false] (fun s_ => [(19, .bool true), (10, .pointer (some ⟨s_, 0, none⟩)), (20, .bool true), (21, .int .i64 a2)]) (fun s_ w' => (w'.cell? ⟨gb1791, 0, none⟩ = some (.int .i64 a0_0) ∧ w'.cell? ⟨gb1791, 1, none⟩ = some (.int .i64 a0_1) ∧ w'.cell? ⟨gb1791, 2, none⟩ = some (.int .i64 a0_2) ∧ w'.cell? ⟨gb1791, 3, none⟩ = some (.int .i64 a0_3) ∧ w'.cell? ⟨gb1791, 4, none⟩ = some (.slice A0_4 l0_4.length c0_4)) ∧ (w'.heap[gb1791]? = some (.cells #[.int .i64 a0_0, .int .i64 a0_1, .int .i64 a0_2, .int .i64 a0_3, .slice A0_4 l0_4.length c0_4] 30 (0, 0))) ∧ (w'.heap[s_]? = some (.cells #[.int .i64 0, .int .i64 0, .int .i64 0] 28 (0, 0))) ∧ (w.heap.size ≤ s_) ∧ (w.heap.size ≤ s_) ∧ (gb1791 ≠ s_) ∧ (s_ ≠ gb1791) ∧ (Below w.heap.size w w')) ?_ ?_
         rotate_left
         ·
          intro hJ2_15
          refine join_ (σ := Unit) 13 #[true, true, true, true, true, false, false, false, false, false, false, false, false, false, false, false, false, false] (fun s_ => [(19, .bool true), (20, .bool true), (21, .int .i64 a2)]) (fun s_ w' => (w'.cell? ⟨gb1791, 0, none⟩ = some (.int .i64 a0_0) ∧ w'.cell? ⟨gb1791, 1, none⟩ = some (.int .i64 a0_1) ∧ w'.cell? ⟨gb1791, 2, none⟩ = some (.int .i64 a0_2) ∧ w'.cell? ⟨gb1791, 3, none⟩ = some (.int .i64 a0_3) ∧ w'.cell? ⟨gb1791, 4, none⟩ = some (.slice A0_4 l0_4.length c0_4)) ∧ (w'.heap[gb1791]? = some (.cells #[.int .i64 a0_0, .int .i64 a0_1, .int .i64 a0_2, .int .i64 a0_3, .slice A0_4 l0_4.length c0_4] 30 (0, 0))) ∧ (Below w.heap.size w w')) ?_ ?_
          rotate_left
          ·
           intro hJ2
           refine join_ (σ := Nat) 15 #[true, true, false, false, false, false, false, false, false, false, false, false, false, false, false, true, false, false] (fun s_ => [(10, .pointer (some ⟨s_, 0, none⟩))]) (fun s_ w' => (w'.cell? ⟨gb1791, 0, none⟩ = some (.int .i64 a0_0) ∧ w'.cell? ⟨gb1791, 1, none⟩ = some (.int .i64 a0_1) ∧ w'.cell? ⟨gb1791, 2, none⟩ = some (.int .i64 a0_2) ∧ w'.cell? ⟨gb1791, 3, none⟩ = some (.int .i64 a0_3) ∧ w'.cell? ⟨gb1791, 4, none⟩ = some (.slice A0_4 l0_4.length c0_4)) ∧ (w'.heap[gb1791]? = some (.cells #[.int .i64 a0_0, .int .i64 a0_1, .int .i64 a0_2, .int .i64 a0_3, .slice A0_4 l0_4.length c0_4] 30 (0, 0))) ∧ (w'.heap[s_]? = some (.cells #[.int .i64 0, .int .i64 0, .int .i64 0] 28 (0, 0))) ∧ (w.heap.size ≤ s_) ∧ (w.heap.size ≤ s_) ∧ (gb1791 ≠ s_) ∧ (s_ ≠ gb1791) ∧ (Below w.heap.size w w')) ?_ ?_
           rotate_left
           ·
            intro hJ15
            refine two_ (i := 2) (j := 15) (Ni := some 19) (Nj := some 10) #[true, true, true, false, false, false, false, false, false, false, false, false, false, false, false, false, false, false] #[true, true, false, false, false, false, false, false, false, false, false, false, false, false, false, true, false, false] rfl rfl rfl rfl (two_of HT_.out (by kernel_rfl)) (by decide) (by decide) (fun K hK => ?_) (fun K hK => ?_)
            ·
             skip
             refine yD Try.func92 (by kernel_rfl) rfl #[.int .i64 a1, .int .i64 1, .int .i64 1000] (by rfl) rfl rfl (by (try simp only [List.map_toArray, List.map_cons, List.map_nil]); first | done | rfl) ?_
             with_reducible refine (xG.calls a1 1 1000 true _ A5.out).mono ?_
             rintro e w' ⟨rfl, ⟨nd, rfl⟩⟩
             refine ⟨_, rfl, ?_⟩
             refine hK.out _ _ ⟨zB BK1791.out 0, zB BK1791.out 1, zB BK1791.out 2, zB BK1791.out 3, zB BK1791.out 4⟩ (fun hHeld => ?_)
             clear hK K
             refine yA (a' := ?_) ?_ ?_
             rotate_left
             ·
              show Act.put _ (some 19) _ = _
              simp only [Act.put, List.setIfInBounds_toArray, List.set_cons_zero, List.set_cons_succ, zQ, zR]
              rfl
             refine zT (i := 3) (N := some 20) (v := ?_) (a' := ?_) #[true, true, true, true, false, false, false, false, false, false, false, false, false, false, false, false, false, false] rfl rfl (zN HT_.out (by kernel_rfl)) (fun _ _ _ h => h) (Or.inl ⟨by rfl, ?_⟩) ?_ ?_
             rotate_left
             ·
              intro w'
              go_simp
              with_reducible rfl
             rotate_left
             ·
              simp only [Act.put, List.setIfInBounds_toArray, List.set_cons_zero, List.set_cons_succ, zQ, zR]
              rfl
             refine zT (i := 4) (N := some 21) (v := ?_) (a' := ?_) #[true, true, true, true, true, false, false, false, false, false, false, false, false, false, false, false, false, false] rfl rfl (zN HT_.out (by kernel_rfl)) (fun _ _ _ h => h) (Or.inl ⟨by rfl, ?_⟩) ?_ ?_
             rotate_left
             ·
              intro w'
              go_simp
              with_reducible rfl
             rotate_left
             ·
              simp only [Act.put, List.setIfInBounds_toArray, List.set_cons_zero, List.set_cons_succ, zQ, zR]
              rfl
             exact yA (by first | (simp only [putAll, Act.put, List.setIfInBounds_toArray, List.set_cons_zero, List.set_cons_succ]; done) | (simp only [putAll, Act.put, List.setIfInBounds_toArray, List.set_cons_zero, List.set_cons_succ]; rfl)) (hJ2 () _ ⟨hHeld, (by (with_reducible repeat (first | refine zE ?_ _ | refine zI ?_ | refine zD ?_ _)); exact BK1791.out), (by repeat (first | (with_reducible first | exact HB.out | apply zG | apply zA | apply zF | refine zH ?_ GE1791.out) | exact HB.out))⟩)
            ·
             skip
             refine box_step ?hg (N := 10) ?hd (cs := #[.int .i64 0, .int .i64 0, .int .i64 0]) (t := 28) ?hr ?_; (case hd => rfl); (case hg => rfl); (case hr => first | (go_simp; done) | (go_simp; rfl))
             intro gb1799 hg w14 hbox hb
             have n0_ := zC.mk (zK (g := gb1791) (o := .cells #[.int .i64 a0_0, .int .i64 a0_1, .int .i64 a0_2, .int .i64 a0_3, .slice A0_4 l0_4.length c0_4] 30 (0, 0)) (by (with_reducible repeat (first | refine zE ?_ _ | refine zI ?_ | refine zD ?_ _)); exact BK1791.out) hb)
             have n1_ := zC.mk (zL (by repeat (first | (with_reducible first | exact HB.out | apply zG | apply zA | apply zF | refine zH ?_ GE1791.out) | exact HB.out)) hb)
             have n2_ := zC.mk (hbox)
             have n3_ := zC.mk ((by rw [hg]; exact (zM (by repeat (first | (with_reducible first | exact HB.out | apply zG | apply zA | apply zF | refine zH ?_ GE1791.out) | exact HB.out))) : w.heap.size ≤ gb1799))
             have n4_ := zC.mk ((by rw [hg]; exact (zM (by repeat (first | (with_reducible first | exact HB.out | apply zG | apply zA | apply zF | refine zH ?_ GE1791.out) | exact HB.out))) : w.heap.size ≤ gb1799))
             have n5_ := zC.mk ((by rw [hg]; exact Nat.ne_of_lt (zX (by (with_reducible repeat (first | refine zE ?_ _ | refine zI ?_ | refine zD ?_ _)); exact BK1791.out)) : gb1791 ≠ gb1799))
             have n6_ := zC.mk ((by rw [hg]; exact Nat.ne_of_gt (zX (by (with_reducible repeat (first | refine zE ?_ _ | refine zI ?_ | refine zD ?_ _)); exact BK1791.out)) : gb1799 ≠ gb1791))
             clear BK1791
             clear HB
             have BK1791 := n0_
             have HB := n1_
             have BK1799 := n2_
             have GW1799 := n3_
             have GE1799 := n4_
             have NB1791_1799 := n5_
             have NB1799_1791 := n6_
             clear n0_ n1_ n2_ n3_ n4_ n5_ n6_
             clear hb hbox hg
             refine hK.out _ _ ⟨zB BK1791.out 0, zB BK1791.out 1, zB BK1791.out 2, zB BK1791.out 3, zB BK1791.out 4⟩ (fun hHeld => ?_)
             clear hK K
             refine yA (a' := ?_) ?_ ?_
             rotate_left
             ·
              show Act.put _ (some 10) _ = _
              simp only [Act.put, List.setIfInBounds_toArray, List.set_cons_zero, List.set_cons_succ, zQ, zR]
              rfl
             exact yA (by first | (simp only [putAll, Act.put, List.setIfInBounds_toArray, List.set_cons_zero, List.set_cons_succ]; done) | (simp only [putAll, Act.put, List.setIfInBounds_toArray, List.set_cons_zero, List.set_cons_succ]; rfl)) (hJ15 (gb1799) _ ⟨hHeld, (by (with_reducible repeat (first | refine zE ?_ _ | refine zI ?_ | refine zD ?_ _)); exact BK1791.out), (by (with_reducible repeat (first | refine zE ?_ _ | refine zI ?_ | refine zD ?_ _)); exact BK1799.out), GW1799.out, GE1799.out, NB1791_1799.out, NB1799_1791.out, (by repeat (first | (with_reducible first | exact HB.out | apply zG | apply zA | apply zF | refine zH ?_ GE1791.out | refine zH ?_ GE1799.out) | exact HB.out))⟩)
           ·
            skip
            rintro gb1799 w15 ⟨hS_, h0_, h1_, h2_, h3_, h4_, h5_, h6_⟩
            have n0_ : zC (w15.heap[gb1791]? = some (.cells #[.int .i64 a0_0, .int .i64 a0_1, .int .i64 a0_2, .int .i64 a0_3, .slice A0_4 l0_4.length c0_4] 30 (0, 0))) := ⟨h0_⟩
            have n1_ : zC (w15.heap[gb1799]? = some (.cells #[.int .i64 0, .int .i64 0, .int .i64 0] 28 (0, 0))) := ⟨h1_⟩
            have n2_ : zC (w.heap.size ≤ gb1799) := ⟨h2_⟩
            have n3_ : zC (w.heap.size ≤ gb1799) := ⟨h3_⟩
            have n4_ : zC (gb1791 ≠ gb1799) := ⟨h4_⟩
            have n5_ : zC (gb1799 ≠ gb1791) := ⟨h5_⟩
            have n6_ : zC (Below w.heap.size w w15) := ⟨h6_⟩
            clear BK1791
            clear HB
            clear h0_ h1_ h2_ h3_ h4_ h5_ h6_
            have BK1791 := n0_
            have BK1799 := n1_
            have GW1799 := n2_
            have GE1799 := n3_
            have NB1791_1799 := n4_
            have NB1799_1791 := n5_
            have HB := n6_
            clear n0_ n1_ n2_ n3_ n4_ n5_ n6_
            have hHeld : w15.cell? ⟨gb1791, 0, none⟩ = some (.int .i64 a0_0) ∧ w15.cell? ⟨gb1791, 1, none⟩ = some (.int .i64 a0_1) ∧ w15.cell? ⟨gb1791, 2, none⟩ = some (.int .i64 a0_2) ∧ w15.cell? ⟨gb1791, 3, none⟩ = some (.int .i64 a0_3) ∧ w15.cell? ⟨gb1791, 4, none⟩ = some (.slice A0_4 l0_4.length c0_4) := hS_
            refine yA (a' := ?_) ?_ ?_
            rotate_left
            ·
             simp only [putAll, Act.put, List.setIfInBounds_toArray, List.set_cons_zero, List.set_cons_succ]
             rfl
            refine one_ (i := 2) (N := some 19) #[true, true, true, false, false, false, false, false, false, false, false, false, false, false, false, true, false, false] rfl rfl (yB HT_.out (by kernel_rfl)) (by decide) (fun K hK => ?_)
            refine yD Try.func92 (by kernel_rfl) rfl #[.int .i64 a1, .int .i64 1, .int .i64 1000] (by rfl) rfl rfl (by (try simp only [List.map_toArray, List.map_cons, List.map_nil]); first | done | rfl) ?_
            with_reducible refine (xG.calls a1 1 1000 true _ A5.out).mono ?_
            rintro e w' ⟨rfl, ⟨nd, rfl⟩⟩
            refine ⟨_, rfl, ?_⟩
            refine hK.out _ _ ⟨zB BK1791.out 0, zB BK1791.out 1, zB BK1791.out 2, zB BK1791.out 3, zB BK1791.out 4⟩ (fun hHeld => ?_)
            clear hK K
            refine yA (a' := ?_) ?_ ?_
            rotate_left
            ·
             show Act.put _ (some 19) _ = _
             simp only [Act.put, List.setIfInBounds_toArray, List.set_cons_zero, List.set_cons_succ, zQ, zR]
             rfl
            refine zT (i := 3) (N := some 20) (v := ?_) (a' := ?_) #[true, true, true, true, false, false, false, false, false, false, false, false, false, false, false, true, false, false] rfl rfl (zN HT_.out (by kernel_rfl)) (fun _ _ _ h => h) (Or.inl ⟨by rfl, ?_⟩) ?_ ?_
            rotate_left
            ·
             intro w'
             go_simp
             with_reducible rfl
            rotate_left
            ·
             simp only [Act.put, List.setIfInBounds_toArray, List.set_cons_zero, List.set_cons_succ, zQ, zR]
             rfl
            refine zT (i := 4) (N := some 21) (v := ?_) (a' := ?_) #[true, true, true, true, true, false, false, false, false, false, false, false, false, false, false, true, false, false] rfl rfl (zN HT_.out (by kernel_rfl)) (fun _ _ _ h => h) (Or.inl ⟨by rfl, ?_⟩) ?_ ?_
            rotate_left
            ·
             intro w'
             go_simp
             with_reducible rfl
            rotate_left
            ·
             simp only [Act.put, List.setIfInBounds_toArray, List.set_cons_zero, List.set_cons_succ, zQ, zR]
             rfl
            exact yA (by first | (simp only [putAll, Act.put, List.setIfInBounds_toArray, List.set_cons_zero, List.set_cons_succ]; done) | (simp only [putAll, Act.put, List.setIfInBounds_toArray, List.set_cons_zero, List.set_cons_succ]; rfl)) (hJ2_15 (gb1799) _ ⟨hHeld, (by (with_reducible repeat (first | refine zE ?_ _ | refine zI ?_ | refine zD ?_ _)); exact BK1791.out), (by (with_reducible repeat (first | refine zE ?_ _ | refine zI ?_ | refine zD ?_ _)); exact BK1799.out), GW1799.out, GE1799.out, NB1791_1799.out, NB1799_1791.out, (by repeat (first | (with_reducible first | exact HB.out | apply zG | apply zA | apply zF | refine zH ?_ GE1791.out | refine zH ?_ GE1799.out) | exact HB.out))⟩)
          ·
           skip
           rintro _ w14 ⟨hS_, h0_, h1_⟩
           have n0_ : zC (w14.heap[gb1791]? = some (.cells #[.int .i64 a0_0, .int .i64 a0_1, .int .i64 a0_2, .int .i64 a0_3, .slice A0_4 l0_4.length c0_4] 30 (0, 0))) := ⟨h0_⟩
           have n1_ : zC (Below w.heap.size w w14) := ⟨h1_⟩
           clear BK1791
           clear HB
           clear h0_ h1_
           have BK1791 := n0_
           have HB := n1_
           clear n0_ n1_
           have hHeld : w14.cell? ⟨gb1791, 0, none⟩ = some (.int .i64 a0_0) ∧ w14.cell? ⟨gb1791, 1, none⟩ = some (.int .i64 a0_1) ∧ w14.cell? ⟨gb1791, 2, none⟩ = some (.int .i64 a0_2) ∧ w14.cell? ⟨gb1791, 3, none⟩ = some (.int .i64 a0_3) ∧ w14.cell? ⟨gb1791, 4, none⟩ = some (.slice A0_4 l0_4.length c0_4) := hS_
           refine yA (a' := ?_) ?_ ?_
           rotate_left
           ·
            simp only [putAll, Act.put, List.setIfInBounds_toArray, List.set_cons_zero, List.set_cons_succ]
            rfl
           refine two_ (i := 5) (j := 15) (Ni := some 22) (Nj := some 10) #[true, true, true, true, true, true, false, false, false, false, false, false, false, false, false, false, false, false] #[true, true, true, true, true, false, false, false, false, false, false, false, false, false, false, true, false, false] rfl rfl rfl rfl (two_of HT_.out (by kernel_rfl)) (by decide) (by decide) (fun K hK => ?_) (fun K hK => ?_)
           ·
            skip
            refine yD Try.func92 (by kernel_rfl) rfl #[.int .i64 a2, .int .i64 1, .int .i64 1000] (by rfl) rfl rfl (by (try simp only [List.map_toArray, List.map_cons, List.map_nil]); first | done | rfl) ?_
            with_reducible refine (xG.calls a2 1 1000 true _ A7.out).mono ?_
            rintro e w' ⟨rfl, ⟨nd, rfl⟩⟩
            refine ⟨_, rfl, ?_⟩
            refine hK.out _ _ ⟨zB BK1791.out 0, zB BK1791.out 1, zB BK1791.out 2, zB BK1791.out 3, zB BK1791.out 4⟩ (fun hHeld => ?_)
            clear hK K
            refine yA (a' := ?_) ?_ ?_
            rotate_left
            ·
             show Act.put _ (some 22) _ = _
             simp only [Act.put, List.setIfInBounds_toArray, List.set_cons_zero, List.set_cons_succ, zQ, zR]
             rfl
            refine zT (i := 6) (N := some 23) (v := ?_) (a' := ?_) #[true, true, true, true, true, true, true, false, false, false, false, false, false, false, false, false, false, false] rfl rfl (zN HT_.out (by kernel_rfl)) (fun _ _ _ h => h) (Or.inl ⟨by rfl, ?_⟩) ?_ ?_
            rotate_left
            ·
             intro w'
             go_simp
             with_reducible rfl
            rotate_left
            ·
             simp only [Act.put, List.setIfInBounds_toArray, List.set_cons_zero, List.set_cons_succ, zQ, zR]
             rfl
            refine zT (i := 7) (N := some 24) (v := ?_) (a' := ?_) #[true, true, true, true, true, true, true, true, false, false, false, false, false, false, false, false, false, false] rfl rfl (zN HT_.out (by kernel_rfl)) (fun _ _ _ h => h) (Or.inl ⟨by rfl, ?_⟩) ?_ ?_
            rotate_left
            ·
             intro w'
             go_simp
             with_reducible rfl
            rotate_left
            ·
             simp only [Act.put, List.setIfInBounds_toArray, List.set_cons_zero, List.set_cons_succ, zQ, zR]
             rfl
            refine zT (i := 8) (N := some 25) (v := ?_) (a' := ?_) #[true, true, true, true, true, true, true, true, true, false, false, false, false, false, false, false, false, false] rfl rfl (zN HT_.out (by kernel_rfl)) (fun _ _ _ h => h) (Or.inl ⟨by rfl, ?_⟩) ?_ ?_
            rotate_left
            ·
             intro w'
             go_simp
             with_reducible rfl
            rotate_left
            ·
             simp only [Act.put, List.setIfInBounds_toArray, List.set_cons_zero, List.set_cons_succ, zQ, zR]
             rfl
            exact yA (by first | (simp only [putAll, Act.put, List.setIfInBounds_toArray, List.set_cons_zero, List.set_cons_succ]; done) | (simp only [putAll, Act.put, List.setIfInBounds_toArray, List.set_cons_zero, List.set_cons_succ]; rfl)) (hJ2_5 () _ ⟨hHeld, (by (with_reducible repeat (first | refine zE ?_ _ | refine zI ?_ | refine zD ?_ _)); exact BK1791.out), (by repeat (first | (with_reducible first | exact HB.out | apply zG | apply zA | apply zF | refine zH ?_ GE1791.out) | exact HB.out))⟩)
           ·
            skip
            refine box_step ?hg (N := 10) ?hd (cs := #[.int .i64 0, .int .i64 0, .int .i64 0]) (t := 28) ?hr ?_; (case hd => rfl); (case hg => rfl); (case hr => first | (go_simp; done) | (go_simp; rfl))
            intro gb1799 hg w15 hbox hb
            have n0_ := zC.mk (zK (g := gb1791) (o := .cells #[.int .i64 a0_0, .int .i64 a0_1, .int .i64 a0_2, .int .i64 a0_3, .slice A0_4 l0_4.length c0_4] 30 (0, 0)) (by (with_reducible repeat (first | refine zE ?_ _ | refine zI ?_ | refine zD ?_ _)); exact BK1791.out) hb)
            have n1_ := zC.mk (zL (by repeat (first | (with_reducible first | exact HB.out | apply zG | apply zA | apply zF | refine zH ?_ GE1791.out) | exact HB.out)) hb)
            have n2_ := zC.mk (hbox)
            have n3_ := zC.mk ((by rw [hg]; exact (zM (by repeat (first | (with_reducible first | exact HB.out | apply zG | apply zA | apply zF | refine zH ?_ GE1791.out) | exact HB.out))) : w.heap.size ≤ gb1799))
            have n4_ := zC.mk ((by rw [hg]; exact (zM (by repeat (first | (with_reducible first | exact HB.out | apply zG | apply zA | apply zF | refine zH ?_ GE1791.out) | exact HB.out))) : w.heap.size ≤ gb1799))
            have n5_ := zC.mk ((by rw [hg]; exact Nat.ne_of_lt (zX (by (with_reducible repeat (first | refine zE ?_ _ | refine zI ?_ | refine zD ?_ _)); exact BK1791.out)) : gb1791 ≠ gb1799))
            have n6_ := zC.mk ((by rw [hg]; exact Nat.ne_of_gt (zX (by (with_reducible repeat (first | refine zE ?_ _ | refine zI ?_ | refine zD ?_ _)); exact BK1791.out)) : gb1799 ≠ gb1791))
            clear BK1791
            clear HB
            have BK1791 := n0_
            have HB := n1_
            have BK1799 := n2_
            have GW1799 := n3_
            have GE1799 := n4_
            have NB1791_1799 := n5_
            have NB1799_1791 := n6_
            clear n0_ n1_ n2_ n3_ n4_ n5_ n6_
            clear hb hbox hg
            refine hK.out _ _ ⟨zB BK1791.out 0, zB BK1791.out 1, zB BK1791.out 2, zB BK1791.out 3, zB BK1791.out 4⟩ (fun hHeld => ?_)
            clear hK K
            refine yA (a' := ?_) ?_ ?_
            rotate_left
            ·
             show Act.put _ (some 10) _ = _
             simp only [Act.put, List.setIfInBounds_toArray, List.set_cons_zero, List.set_cons_succ, zQ, zR]
             rfl
            exact yA (by first | (simp only [putAll, Act.put, List.setIfInBounds_toArray, List.set_cons_zero, List.set_cons_succ]; done) | (simp only [putAll, Act.put, List.setIfInBounds_toArray, List.set_cons_zero, List.set_cons_succ]; rfl)) (hJ2_15 (gb1799) _ ⟨hHeld, (by (with_reducible repeat (first | refine zE ?_ _ | refine zI ?_ | refine zD ?_ _)); exact BK1791.out), (by (with_reducible repeat (first | refine zE ?_ _ | refine zI ?_ | refine zD ?_ _)); exact BK1799.out), GW1799.out, GE1799.out, NB1791_1799.out, NB1799_1791.out, (by repeat (first | (with_reducible first | exact HB.out | apply zG | apply zA | apply zF | refine zH ?_ GE1791.out | refine zH ?_ GE1799.out) | exact HB.out))⟩)
         ·
          skip
          rintro gb1799 w15 ⟨hS_, h0_, h1_, h2_, h3_, h4_, h5_, h6_⟩
          have n0_ : zC (w15.heap[gb1791]? = some (.cells #[.int .i64 a0_0, .int .i64 a0_1, .int .i64 a0_2, .int .i64 a0_3, .slice A0_4 l0_4.length c0_4] 30 (0, 0))) := ⟨h0_⟩
          have n1_ : zC (w15.heap[gb1799]? = some (.cells #[.int .i64 0, .int .i64 0, .int .i64 0] 28 (0, 0))) := ⟨h1_⟩
          have n2_ : zC (w.heap.size ≤ gb1799) := ⟨h2_⟩
          have n3_ : zC (w.heap.size ≤ gb1799) := ⟨h3_⟩
          have n4_ : zC (gb1791 ≠ gb1799) := ⟨h4_⟩
          have n5_ : zC (gb1799 ≠ gb1791) := ⟨h5_⟩
          have n6_ : zC (Below w.heap.size w w15) := ⟨h6_⟩
          clear BK1791
          clear HB
          clear h0_ h1_ h2_ h3_ h4_ h5_ h6_
          have BK1791 := n0_
          have BK1799 := n1_
          have GW1799 := n2_
          have GE1799 := n3_
          have NB1791_1799 := n4_
          have NB1799_1791 := n5_
          have HB := n6_
          clear n0_ n1_ n2_ n3_ n4_ n5_ n6_
          have hHeld : w15.cell? ⟨gb1791, 0, none⟩ = some (.int .i64 a0_0) ∧ w15.cell? ⟨gb1791, 1, none⟩ = some (.int .i64 a0_1) ∧ w15.cell? ⟨gb1791, 2, none⟩ = some (.int .i64 a0_2) ∧ w15.cell? ⟨gb1791, 3, none⟩ = some (.int .i64 a0_3) ∧ w15.cell? ⟨gb1791, 4, none⟩ = some (.slice A0_4 l0_4.length c0_4) := hS_
          refine yA (a' := ?_) ?_ ?_
          rotate_left
          ·
           simp only [putAll, Act.put, List.setIfInBounds_toArray, List.set_cons_zero, List.set_cons_succ]
           rfl
          refine one_ (i := 5) (N := some 22) #[true, true, true, true, true, true, false, false, false, false, false, false, false, false, false, true, false, false] rfl rfl (yB HT_.out (by kernel_rfl)) (by decide) (fun K hK => ?_)
          refine yD Try.func92 (by kernel_rfl) rfl #[.int .i64 a2, .int .i64 1, .int .i64 1000] (by rfl) rfl rfl (by (try simp only [List.map_toArray, List.map_cons, List.map_nil]); first | done | rfl) ?_
          with_reducible refine (xG.calls a2 1 1000 true _ A7.out).mono ?_
          rintro e w' ⟨rfl, ⟨nd, rfl⟩⟩
          refine ⟨_, rfl, ?_⟩
          refine hK.out _ _ ⟨zB BK1791.out 0, zB BK1791.out 1, zB BK1791.out 2, zB BK1791.out 3, zB BK1791.out 4⟩ (fun hHeld => ?_)
          clear hK K
          refine yA (a' := ?_) ?_ ?_
          rotate_left
          ·
           show Act.put _ (some 22) _ = _
           simp only [Act.put, List.setIfInBounds_toArray, List.set_cons_zero, List.set_cons_succ, zQ, zR]
           rfl
          refine zT (i := 6) (N := some 23) (v := ?_) (a' := ?_) #[true, true, true, true, true, true, true, false, false, false, false, false, false, false, false, true, false, false] rfl rfl (zN HT_.out (by kernel_rfl)) (fun _ _ _ h => h) (Or.inl ⟨by rfl, ?_⟩) ?_ ?_
          rotate_left
          ·
           intro w'
           go_simp
           with_reducible rfl
          rotate_left
          ·
           simp only [Act.put, List.setIfInBounds_toArray, List.set_cons_zero, List.set_cons_succ, zQ, zR]
           rfl
          refine zT (i := 7) (N := some 24) (v := ?_) (a' := ?_) #[true, true, true, true, true, true, true, true, false, false, false, false, false, false, false, true, false, false] rfl rfl (zN HT_.out (by kernel_rfl)) (fun _ _ _ h => h) (Or.inl ⟨by rfl, ?_⟩) ?_ ?_
          rotate_left
          ·
           intro w'
           go_simp
           with_reducible rfl
          rotate_left
          ·
           simp only [Act.put, List.setIfInBounds_toArray, List.set_cons_zero, List.set_cons_succ, zQ, zR]
           rfl
          refine zT (i := 8) (N := some 25) (v := ?_) (a' := ?_) #[true, true, true, true, true, true, true, true, true, false, false, false, false, false, false, true, false, false] rfl rfl (zN HT_.out (by kernel_rfl)) (fun _ _ _ h => h) (Or.inl ⟨by rfl, ?_⟩) ?_ ?_
          rotate_left
          ·
           intro w'
           go_simp
           with_reducible rfl
          rotate_left
          ·
           simp only [Act.put, List.setIfInBounds_toArray, List.set_cons_zero, List.set_cons_succ, zQ, zR]
           rfl
          exact yA (by first | (simp only [putAll, Act.put, List.setIfInBounds_toArray, List.set_cons_zero, List.set_cons_succ]; done) | (simp only [putAll, Act.put, List.setIfInBounds_toArray, List.set_cons_zero, List.set_cons_succ]; rfl)) (hJ2_5_15 (gb1799) _ ⟨hHeld, (by (with_reducible repeat (first | refine zE ?_ _ | refine zI ?_ | refine zD ?_ _)); exact BK1791.out), (by (with_reducible repeat (first | refine zE ?_ _ | refine zI ?_ | refine zD ?_ _)); exact BK1799.out), GW1799.out, GE1799.out, NB1791_1799.out, NB1799_1791.out, (by repeat (first | (with_reducible first | exact HB.out | apply zG | apply zA | apply zF | refine zH ?_ GE1791.out | refine zH ?_ GE1799.out) | exact HB.out))⟩)
        ·
         skip
         rintro _ w14 ⟨hS_, h0_, h1_⟩
         have n0_ : zC (w14.heap[gb1791]? = some (.cells #[.int .i64 a0_0, .int .i64 a0_1, .int .i64 a0_2, .int .i64 a0_3, .slice A0_4 l0_4.length c0_4] 30 (0, 0))) := ⟨h0_⟩
         have n1_ : zC (Below w.heap.size w w14) := ⟨h1_⟩
         clear BK1791
         clear HB
         clear h0_ h1_
         have BK1791 := n0_
         have HB := n1_
         clear n0_ n1_
         have hHeld : w14.cell? ⟨gb1791, 0, none⟩ = some (.int .i64 a0_0) ∧ w14.cell? ⟨gb1791, 1, none⟩ = some (.int .i64 a0_1) ∧ w14.cell? ⟨gb1791, 2, none⟩ = some (.int .i64 a0_2) ∧ w14.cell? ⟨gb1791, 3, none⟩ = some (.int .i64 a0_3) ∧ w14.cell? ⟨gb1791, 4, none⟩ = some (.slice A0_4 l0_4.length c0_4) := hS_
         refine yA (a' := ?_) ?_ ?_
         rotate_left
         ·
          simp only [putAll, Act.put, List.setIfInBounds_toArray, List.set_cons_zero, List.set_cons_succ]
          rfl
         refine two_ (i := 9) (j := 15) (Ni := some 26) (Nj := some 10) #[true, true, true, true, true, true, true, true, true, true, false, false, false, false, false, false, false, false] #[true, true, true, true, true, true, true, true, true, false, false, false, false, false, false, true, false, false] rfl rfl rfl rfl (two_of HT_.out (by kernel_rfl)) (by decide) (by decide) (fun K hK => ?_) (fun K hK => ?_)
         ·
          skip
          refine yD Try.func92 (by kernel_rfl) rfl #[.int .i64 a3, .int .i64 0, .int .i64 100000] (by rfl) rfl rfl (by (try simp only [List.map_toArray, List.map_cons, List.map_nil]); first | done | rfl) ?_
          with_reducible refine (xG.calls a3 0 100000 t1794 _ A9.out).mono ?_
          rintro e w' ⟨rfl, ⟨nd, rfl⟩⟩
          refine ⟨_, rfl, ?_⟩
          refine hK.out _ _ ⟨zB BK1791.out 0, zB BK1791.out 1, zB BK1791.out 2, zB BK1791.out 3, zB BK1791.out 4⟩ (fun hHeld => ?_)
          clear hK K
          refine yA (a' := ?_) ?_ ?_
          rotate_left
          ·
           show Act.put _ (some 26) _ = _
           simp only [Act.put, List.setIfInBounds_toArray, List.set_cons_zero, List.set_cons_succ, zQ, zR]
           rfl
          refine zT (i := 10) (N := some 27) (v := ?_) (a' := ?_) #[true, true, true, true, true, true, true, true, true, true, true, false, false, false, false, false, false, false] rfl rfl (zN HT_.out (by kernel_rfl)) (fun _ _ _ h => h) (Or.inl ⟨by rfl, ?_⟩) ?_ ?_
          rotate_left
          ·
           intro w'
           go_simp
           with_reducible rfl
          rotate_left
          ·
           simp only [Act.put, List.setIfInBounds_toArray, List.set_cons_zero, List.set_cons_succ, zQ, zR]
           rfl
          exact yA (by first | (simp only [putAll, Act.put, List.setIfInBounds_toArray, List.set_cons_zero, List.set_cons_succ]; done) | (simp only [putAll, Act.put, List.setIfInBounds_toArray, List.set_cons_zero, List.set_cons_succ]; rfl)) (hJ2_5_9 () _ ⟨hHeld, (by (with_reducible repeat (first | refine zE ?_ _ | refine zI ?_ | refine zD ?_ _)); exact BK1791.out), (by repeat (first | (with_reducible first | exact HB.out | apply zG | apply zA | apply zF | refine zH ?_ GE1791.out) | exact HB.out))⟩)
         ·
          skip
          refine box_step ?hg (N := 10) ?hd (cs := #[.int .i64 0, .int .i64 0, .int .i64 0]) (t := 28) ?hr ?_; (case hd => rfl); (case hg => rfl); (case hr => first | (go_simp; done) | (go_simp; rfl))
          intro gb1799 hg w15 hbox hb
          have n0_ := zC.mk (zK (g := gb1791) (o := .cells #[.int .i64 a0_0, .int .i64 a0_1, .int .i64 a0_2, .int .i64 a0_3, .slice A0_4 l0_4.length c0_4] 30 (0, 0)) (by (with_reducible repeat (first | refine zE ?_ _ | refine zI ?_ | refine zD ?_ _)); exact BK1791.out) hb)
          have n1_ := zC.mk (zL (by repeat (first | (with_reducible first | exact HB.out | apply zG | apply zA | apply zF | refine zH ?_ GE1791.out) | exact HB.out)) hb)
          have n2_ := zC.mk (hbox)
          have n3_ := zC.mk ((by rw [hg]; exact (zM (by repeat (first | (with_reducible first | exact HB.out | apply zG | apply zA | apply zF | refine zH ?_ GE1791.out) | exact HB.out))) : w.heap.size ≤ gb1799))
          have n4_ := zC.mk ((by rw [hg]; exact (zM (by repeat (first | (with_reducible first | exact HB.out | apply zG | apply zA | apply zF | refine zH ?_ GE1791.out) | exact HB.out))) : w.heap.size ≤ gb1799))
          have n5_ := zC.mk ((by rw [hg]; exact Nat.ne_of_lt (zX (by (with_reducible repeat (first | refine zE ?_ _ | refine zI ?_ | refine zD ?_ _)); exact BK1791.out)) : gb1791 ≠ gb1799))
          have n6_ := zC.mk ((by rw [hg]; exact Nat.ne_of_gt (zX (by (with_reducible repeat (first | refine zE ?_ _ | refine zI ?_ | refine zD ?_ _)); exact BK1791.out)) : gb1799 ≠ gb1791))
          clear BK1791
          clear HB
          have BK1791 := n0_
          have HB := n1_
          have BK1799 := n2_
          have GW1799 := n3_
          have GE1799 := n4_
          have NB1791_1799 := n5_
          have NB1799_1791 := n6_
          clear n0_ n1_ n2_ n3_ n4_ n5_ n6_
          clear hb hbox hg
          refine hK.out _ _ ⟨zB BK1791.out 0, zB BK1791.out 1, zB BK1791.out 2, zB BK1791.out 3, zB BK1791.out 4⟩ (fun hHeld => ?_)
          clear hK K
          refine yA (a' := ?_) ?_ ?_
          rotate_left
          ·
           show Act.put _ (some 10) _ = _
           simp only [Act.put, List.setIfInBounds_toArray, List.set_cons_zero, List.set_cons_succ, zQ, zR]
           rfl
          exact yA (by first | (simp only [putAll, Act.put, List.setIfInBounds_toArray, List.set_cons_zero, List.set_cons_succ]; done) | (simp only [putAll, Act.put, List.setIfInBounds_toArray, List.set_cons_zero, List.set_cons_succ]; rfl)) (hJ2_5_15 (gb1799) _ ⟨hHeld, (by (with_reducible repeat (first | refine zE ?_ _ | refine zI ?_ | refine zD ?_ _)); exact BK1791.out), (by (with_reducible repeat (first | refine zE ?_ _ | refine zI ?_ | refine zD ?_ _)); exact BK1799.out), GW1799.out, GE1799.out, NB1791_1799.out, NB1799_1791.out, (by repeat (first | (with_reducible first | exact HB.out | apply zG | apply zA | apply zF | refine zH ?_ GE1791.out | refine zH ?_ GE1799.out) | exact HB.out))⟩)
       ·
        skip
        rintro gb1799 w15 ⟨hS_, h0_, h1_, h2_, h3_, h4_, h5_, h6_⟩
        have n0_ : zC (w15.heap[gb1791]? = some (.cells #[.int .i64 a0_0, .int .i64 a0_1, .int .i64 a0_2, .int .i64 a0_3, .slice A0_4 l0_4.length c0_4] 30 (0, 0))) := ⟨h0_⟩
        have n1_ : zC (w15.heap[gb1799]? = some (.cells #[.int .i64 0, .int .i64 0, .int .i64 0] 28 (0, 0))) := ⟨h1_⟩
        have n2_ : zC (w.heap.size ≤ gb1799) := ⟨h2_⟩
        have n3_ : zC (w.heap.size ≤ gb1799) := ⟨h3_⟩
        have n4_ : zC (gb1791 ≠ gb1799) := ⟨h4_⟩
        have n5_ : zC (gb1799 ≠ gb1791) := ⟨h5_⟩
        have n6_ : zC (Below w.heap.size w w15) := ⟨h6_⟩
        clear BK1791
        clear HB
        clear h0_ h1_ h2_ h3_ h4_ h5_ h6_
        have BK1791 := n0_
        have BK1799 := n1_
        have GW1799 := n2_
        have GE1799 := n3_
        have NB1791_1799 := n4_
        have NB1799_1791 := n5_
        have HB := n6_
        clear n0_ n1_ n2_ n3_ n4_ n5_ n6_
        have hHeld : w15.cell? ⟨gb1791, 0, none⟩ = some (.int .i64 a0_0) ∧ w15.cell? ⟨gb1791, 1, none⟩ = some (.int .i64 a0_1) ∧ w15.cell? ⟨gb1791, 2, none⟩ = some (.int .i64 a0_2) ∧ w15.cell? ⟨gb1791, 3, none⟩ = some (.int .i64 a0_3) ∧ w15.cell? ⟨gb1791, 4, none⟩ = some (.slice A0_4 l0_4.length c0_4) := hS_
        refine yA (a' := ?_) ?_ ?_
        rotate_left
        ·
         simp only [putAll, Act.put, List.setIfInBounds_toArray, List.set_cons_zero, List.set_cons_succ]
         rfl
        refine one_ (i := 9) (N := some 26) #[true, true, true, true, true, true, true, true, true, true, false, false, false, false, false, true, false, false] rfl rfl (yB HT_.out (by kernel_rfl)) (by decide) (fun K hK => ?_)
        refine yD Try.func92 (by kernel_rfl) rfl #[.int .i64 a3, .int .i64 0, .int .i64 100000] (by rfl) rfl rfl (by (try simp only [List.map_toArray, List.map_cons, List.map_nil]); first | done | rfl) ?_
        with_reducible refine (xG.calls a3 0 100000 t1794 _ A9.out).mono ?_
        rintro e w' ⟨rfl, ⟨nd, rfl⟩⟩
        refine ⟨_, rfl, ?_⟩
        refine hK.out _ _ ⟨zB BK1791.out 0, zB BK1791.out 1, zB BK1791.out 2, zB BK1791.out 3, zB BK1791.out 4⟩ (fun hHeld => ?_)
        clear hK K
        refine yA (a' := ?_) ?_ ?_
        rotate_left
        ·
         show Act.put _ (some 26) _ = _
         simp only [Act.put, List.setIfInBounds_toArray, List.set_cons_zero, List.set_cons_succ, zQ, zR]
         rfl
        refine zT (i := 10) (N := some 27) (v := ?_) (a' := ?_) #[true, true, true, true, true, true, true, true, true, true, true, false, false, false, false, true, false, false] rfl rfl (zN HT_.out (by kernel_rfl)) (fun _ _ _ h => h) (Or.inl ⟨by rfl, ?_⟩) ?_ ?_
        rotate_left
        ·
         intro w'
         go_simp
         with_reducible rfl
        rotate_left
        ·
         simp only [Act.put, List.setIfInBounds_toArray, List.set_cons_zero, List.set_cons_succ, zQ, zR]
         rfl
        exact yA (by first | (simp only [putAll, Act.put, List.setIfInBounds_toArray, List.set_cons_zero, List.set_cons_succ]; done) | (simp only [putAll, Act.put, List.setIfInBounds_toArray, List.set_cons_zero, List.set_cons_succ]; rfl)) (hJ2_5_9_15 (gb1799) _ ⟨hHeld, (by (with_reducible repeat (first | refine zE ?_ _ | refine zI ?_ | refine zD ?_ _)); exact BK1791.out), (by (with_reducible repeat (first | refine zE ?_ _ | refine zI ?_ | refine zD ?_ _)); exact BK1799.out), GW1799.out, GE1799.out, NB1791_1799.out, NB1799_1791.out, (by repeat (first | (with_reducible first | exact HB.out | apply zG | apply zA | apply zF | refine zH ?_ GE1791.out | refine zH ?_ GE1799.out) | exact HB.out))⟩)
      ·
       skip
       rintro _ w14 ⟨hS_, h0_, h1_⟩
       have n0_ : zC (w14.heap[gb1791]? = some (.cells #[.int .i64 a0_0, .int .i64 a0_1, .int .i64 a0_2, .int .i64 a0_3, .slice A0_4 l0_4.length c0_4] 30 (0, 0))) := ⟨h0_⟩
       have n1_ : zC (Below w.heap.size w w14) := ⟨h1_⟩
       clear BK1791
       clear HB
       clear h0_ h1_
       have BK1791 := n0_
       have HB := n1_
       clear n0_ n1_
       have hHeld : w14.cell? ⟨gb1791, 0, none⟩ = some (.int .i64 a0_0) ∧ w14.cell? ⟨gb1791, 1, none⟩ = some (.int .i64 a0_1) ∧ w14.cell? ⟨gb1791, 2, none⟩ = some (.int .i64 a0_2) ∧ w14.cell? ⟨gb1791, 3, none⟩ = some (.int .i64 a0_3) ∧ w14.cell? ⟨gb1791, 4, none⟩ = some (.slice A0_4 l0_4.length c0_4) := hS_
       refine yA (a' := ?_) ?_ ?_
       rotate_left
       ·
        simp only [putAll, Act.put, List.setIfInBounds_toArray, List.set_cons_zero, List.set_cons_succ]
        rfl
       refine two_ (i := 11) (j := 15) (Ni := some 28) (Nj := some 10) #[true, true, true, true, true, true, true, true, true, true, true, true, false, false, false, false, false, false] #[true, true, true, true, true, true, true, true, true, true, true, false, false, false, false, true, false, false] rfl rfl rfl rfl (two_of HT_.out (by kernel_rfl)) (by decide) (by decide) (fun K hK => ?_) (fun K hK => ?_)
       ·
        skip
        refine yD Try.func105 (by kernel_rfl) rfl #[.agg #[.int .i64 a0_0, .int .i64 a0_1, .int .i64 a0_2, .int .i64 a0_3, .slice A0_4 l0_4.length c0_4], .bool t1794] (by rfl) rfl rfl (by (try simp only [List.map_toArray, List.map_cons, List.map_nil]); first | done | rfl) ?_
        with_reducible refine (yQ.calls k a0_0 a0_1 a0_2 a0_3 _ _ l0_4 t1794 t1795 t1796 t1797 t1798 _ ?side1 ?side2 A10.out).mono ?_
        (case side1 => repeat (first | exact (Kd.C_below HR0_4.out HB.out) | (with_reducible refine Kd.C_alloc ?_ _) | (with_reducible refine Kd.C_drewN ?_ _) | (with_reducible refine Kd.C_drew ?_)))
        (case side2 => exact HC0_4.out)
        rintro e w15 ⟨rfl, hb⟩
        refine ⟨_, rfl, ?_⟩
        have n0_ := zC.mk (zK (g := gb1791) (o := .cells #[.int .i64 a0_0, .int .i64 a0_1, .int .i64 a0_2, .int .i64 a0_3, .slice A0_4 l0_4.length c0_4] 30 (0, 0)) (by (with_reducible repeat (first | refine zE ?_ _ | refine zI ?_ | refine zD ?_ _)); exact BK1791.out) hb)
        have n1_ := zC.mk (zL (by repeat (first | (with_reducible first | exact HB.out | apply zG | apply zA | apply zF | refine zH ?_ GE1791.out) | exact HB.out)) hb)
        clear BK1791
        clear HB
        have BK1791 := n0_
        have HB := n1_
        clear n0_ n1_
        (try clear hb)
        refine hK.out _ _ ⟨zB BK1791.out 0, zB BK1791.out 1, zB BK1791.out 2, zB BK1791.out 3, zB BK1791.out 4⟩ (fun hHeld => ?_)
        clear hK K
        refine yA (a' := ?_) ?_ ?_
        rotate_left
        ·
         show Act.put _ (some 28) _ = _
         simp only [Act.put, List.setIfInBounds_toArray, List.set_cons_zero, List.set_cons_succ, zQ, zR]
         rfl
        refine zT (i := 12) (N := some 16) (v := ?_) (a' := ?_) #[true, true, true, true, true, true, true, true, true, true, true, true, true, false, false, false, false, false] rfl rfl (zN HT_.out (by kernel_rfl)) (fun _ _ _ h => h) (Or.inl ⟨by rfl, ?_⟩) ?_ ?_
        rotate_left
        ·
         intro w'
         go_simp
         with_reducible rfl
        rotate_left
        ·
         simp only [Act.put, List.setIfInBounds_toArray, List.set_cons_zero, List.set_cons_succ, zQ, zR]
         rfl
        refine zT (i := 13) (N := some 29) (v := ?_) (a' := ?_) #[true, true, true, true, true, true, true, true, true, true, true, true, true, true, false, false, false, false] rfl rfl (zN HT_.out (by kernel_rfl)) (fun _ _ _ h => h) (Or.inl ⟨by rfl, ?_⟩) ?_ ?_
        rotate_left
        ·
         intro w'
         go_simp
         with_reducible rfl
        rotate_left
        ·
         simp only [Act.put, List.setIfInBounds_toArray, List.set_cons_zero, List.set_cons_succ, zQ, zR]
         rfl
        refine zT (i := 14) (N := some 30) (v := ?_) (a' := ?_) #[true, true, true, true, true, true, true, true, true, true, true, true, true, true, true, false, false, false] rfl rfl (zN HT_.out (by kernel_rfl)) (fun _ _ _ h => h) (Or.inl ⟨by rfl, ?_⟩) ?_ ?_
        rotate_left
        ·
         intro w'
         go_simp
         with_reducible rfl
        rotate_left
        ·
         simp only [Act.put, List.setIfInBounds_toArray, List.set_cons_zero, List.set_cons_succ, zQ, zR]
         rfl
        exact yA (by first | (simp only [putAll, Act.put, List.setIfInBounds_toArray, List.set_cons_zero, List.set_cons_succ]; done) | (simp only [putAll, Act.put, List.setIfInBounds_toArray, List.set_cons_zero, List.set_cons_succ]; rfl)) (hJ2_5_9_11 () _ ⟨hHeld, (by (with_reducible repeat (first | refine zE ?_ _ | refine zI ?_ | refine zD ?_ _)); exact BK1791.out), (by repeat (first | (with_reducible first | exact HB.out | apply zG | apply zA | apply zF | refine zH ?_ GE1791.out) | exact HB.out))⟩)
       ·
        skip
        refine box_step ?hg (N := 10) ?hd (cs := #[.int .i64 0, .int .i64 0, .int .i64 0]) (t := 28) ?hr ?_; (case hd => rfl); (case hg => rfl); (case hr => first | (go_simp; done) | (go_simp; rfl))
        intro gb1799 hg w15 hbox hb
        have n0_ := zC.mk (zK (g := gb1791) (o := .cells #[.int .i64 a0_0, .int .i64 a0_1, .int .i64 a0_2, .int .i64 a0_3, .slice A0_4 l0_4.length c0_4] 30 (0, 0)) (by (with_reducible repeat (first | refine zE ?_ _ | refine zI ?_ | refine zD ?_ _)); exact BK1791.out) hb)
        have n1_ := zC.mk (zL (by repeat (first | (with_reducible first | exact HB.out | apply zG | apply zA | apply zF | refine zH ?_ GE1791.out) | exact HB.out)) hb)
        have n2_ := zC.mk (hbox)
        have n3_ := zC.mk ((by rw [hg]; exact (zM (by repeat (first | (with_reducible first | exact HB.out | apply zG | apply zA | apply zF | refine zH ?_ GE1791.out) | exact HB.out))) : w.heap.size ≤ gb1799))
        have n4_ := zC.mk ((by rw [hg]; exact (zM (by repeat (first | (with_reducible first | exact HB.out | apply zG | apply zA | apply zF | refine zH ?_ GE1791.out) | exact HB.out))) : w.heap.size ≤ gb1799))
        have n5_ := zC.mk ((by rw [hg]; exact Nat.ne_of_lt (zX (by (with_reducible repeat (first | refine zE ?_ _ | refine zI ?_ | refine zD ?_ _)); exact BK1791.out)) : gb1791 ≠ gb1799))
        have n6_ := zC.mk ((by rw [hg]; exact Nat.ne_of_gt (zX (by (with_reducible repeat (first | refine zE ?_ _ | refine zI ?_ | refine zD ?_ _)); exact BK1791.out)) : gb1799 ≠ gb1791))
        clear BK1791
        clear HB
        have BK1791 := n0_
        have HB := n1_
        have BK1799 := n2_
        have GW1799 := n3_
        have GE1799 := n4_
        have NB1791_1799 := n5_
        have NB1799_1791 := n6_
        clear n0_ n1_ n2_ n3_ n4_ n5_ n6_
        clear hb hbox hg
        refine hK.out _ _ ⟨zB BK1791.out 0, zB BK1791.out 1, zB BK1791.out 2, zB BK1791.out 3, zB BK1791.out 4⟩ (fun hHeld => ?_)
        clear hK K
        refine yA (a' := ?_) ?_ ?_
        rotate_left
        ·
         show Act.put _ (some 10) _ = _
         simp only [Act.put, List.setIfInBounds_toArray, List.set_cons_zero, List.set_cons_succ, zQ, zR]
         rfl
        exact yA (by first | (simp only [putAll, Act.put, List.setIfInBounds_toArray, List.set_cons_zero, List.set_cons_succ]; done) | (simp only [putAll, Act.put, List.setIfInBounds_toArray, List.set_cons_zero, List.set_cons_succ]; rfl)) (hJ2_5_9_15 (gb1799) _ ⟨hHeld, (by (with_reducible repeat (first | refine zE ?_ _ | refine zI ?_ | refine zD ?_ _)); exact BK1791.out), (by (with_reducible repeat (first | refine zE ?_ _ | refine zI ?_ | refine zD ?_ _)); exact BK1799.out), GW1799.out, GE1799.out, NB1791_1799.out, NB1799_1791.out, (by repeat (first | (with_reducible first | exact HB.out | apply zG | apply zA | apply zF | refine zH ?_ GE1791.out | refine zH ?_ GE1799.out) | exact HB.out))⟩)
     ·
      skip
      rintro gb1799 w15 ⟨hS_, h0_, h1_, h2_, h3_, h4_, h5_, h6_⟩
      have n0_ : zC (w15.heap[gb1791]? = some (.cells #[.int .i64 a0_0, .int .i64 a0_1, .int .i64 a0_2, .int .i64 a0_3, .slice A0_4 l0_4.length c0_4] 30 (0, 0))) := ⟨h0_⟩
      have n1_ : zC (w15.heap[gb1799]? = some (.cells #[.int .i64 0, .int .i64 0, .int .i64 0] 28 (0, 0))) := ⟨h1_⟩
      have n2_ : zC (w.heap.size ≤ gb1799) := ⟨h2_⟩
      have n3_ : zC (w.heap.size ≤ gb1799) := ⟨h3_⟩
      have n4_ : zC (gb1791 ≠ gb1799) := ⟨h4_⟩
      have n5_ : zC (gb1799 ≠ gb1791) := ⟨h5_⟩
      have n6_ : zC (Below w.heap.size w w15) := ⟨h6_⟩
      clear BK1791
      clear HB
      clear h0_ h1_ h2_ h3_ h4_ h5_ h6_
      have BK1791 := n0_
      have BK1799 := n1_
      have GW1799 := n2_
      have GE1799 := n3_
      have NB1791_1799 := n4_
      have NB1799_1791 := n5_
      have HB := n6_
      clear n0_ n1_ n2_ n3_ n4_ n5_ n6_
      have hHeld : w15.cell? ⟨gb1791, 0, none⟩ = some (.int .i64 a0_0) ∧ w15.cell? ⟨gb1791, 1, none⟩ = some (.int .i64 a0_1) ∧ w15.cell? ⟨gb1791, 2, none⟩ = some (.int .i64 a0_2) ∧ w15.cell? ⟨gb1791, 3, none⟩ = some (.int .i64 a0_3) ∧ w15.cell? ⟨gb1791, 4, none⟩ = some (.slice A0_4 l0_4.length c0_4) := hS_
      refine yA (a' := ?_) ?_ ?_
      rotate_left
      ·
       simp only [putAll, Act.put, List.setIfInBounds_toArray, List.set_cons_zero, List.set_cons_succ]
       rfl
      refine one_ (i := 11) (N := some 28) #[true, true, true, true, true, true, true, true, true, true, true, true, false, false, false, true, false, false] rfl rfl (yB HT_.out (by kernel_rfl)) (by decide) (fun K hK => ?_)
      refine yD Try.func105 (by kernel_rfl) rfl #[.agg #[.int .i64 a0_0, .int .i64 a0_1, .int .i64 a0_2, .int .i64 a0_3, .slice A0_4 l0_4.length c0_4], .bool t1794] (by rfl) rfl rfl (by (try simp only [List.map_toArray, List.map_cons, List.map_nil]); first | done | rfl) ?_
      with_reducible refine (yQ.calls k a0_0 a0_1 a0_2 a0_3 _ _ l0_4 t1794 t1795 t1796 t1797 t1798 _ ?side1 ?side2 A10.out).mono ?_
      (case side1 => repeat (first | exact (Kd.C_below HR0_4.out HB.out) | (with_reducible refine Kd.C_alloc ?_ _) | (with_reducible refine Kd.C_drewN ?_ _) | (with_reducible refine Kd.C_drew ?_)))
      (case side2 => exact HC0_4.out)
      rintro e w16 ⟨rfl, hb⟩
      refine ⟨_, rfl, ?_⟩
      have n0_ := zC.mk (zK (g := gb1791) (o := .cells #[.int .i64 a0_0, .int .i64 a0_1, .int .i64 a0_2, .int .i64 a0_3, .slice A0_4 l0_4.length c0_4] 30 (0, 0)) (by (with_reducible repeat (first | refine zE ?_ _ | refine zI ?_ | refine zD ?_ _)); exact BK1791.out) hb)
      have n1_ := zC.mk (zK (g := gb1799) (o := .cells #[.int .i64 0, .int .i64 0, .int .i64 0] 28 (0, 0)) (by (with_reducible repeat (first | refine zE ?_ _ | refine zI ?_ | refine zD ?_ _)); exact BK1799.out) hb)
      have n2_ := zC.mk (zL (by repeat (first | (with_reducible first | exact HB.out | apply zG | apply zA | apply zF | refine zH ?_ GE1791.out | refine zH ?_ GE1799.out) | exact HB.out)) hb)
      clear BK1791
      clear BK1799
      clear HB
      have BK1791 := n0_
      have BK1799 := n1_
      have HB := n2_
      clear n0_ n1_ n2_
      (try clear hb)
      refine hK.out _ _ ⟨zB BK1791.out 0, zB BK1791.out 1, zB BK1791.out 2, zB BK1791.out 3, zB BK1791.out 4⟩ (fun hHeld => ?_)
      clear hK K
      refine yA (a' := ?_) ?_ ?_
      rotate_left
      ·
       show Act.put _ (some 28) _ = _
       simp only [Act.put, List.setIfInBounds_toArray, List.set_cons_zero, List.set_cons_succ, zQ, zR]
       rfl
      refine zT (i := 12) (N := some 16) (v := ?_) (a' := ?_) #[true, true, true, true, true, true, true, true, true, true, true, true, true, false, false, true, false, false] rfl rfl (zN HT_.out (by kernel_rfl)) (fun _ _ _ h => h) (Or.inl ⟨by rfl, ?_⟩) ?_ ?_
      rotate_left
      ·
       intro w'
       go_simp
       with_reducible rfl
      rotate_left
      ·
       simp only [Act.put, List.setIfInBounds_toArray, List.set_cons_zero, List.set_cons_succ, zQ, zR]
       rfl
      refine zT (i := 13) (N := some 29) (v := ?_) (a' := ?_) #[true, true, true, true, true, true, true, true, true, true, true, true, true, true, false, true, false, false] rfl rfl (zN HT_.out (by kernel_rfl)) (fun _ _ _ h => h) (Or.inl ⟨by rfl, ?_⟩) ?_ ?_
      rotate_left
      ·
       intro w'
       go_simp
       with_reducible rfl
      rotate_left
      ·
       simp only [Act.put, List.setIfInBounds_toArray, List.set_cons_zero, List.set_cons_succ, zQ, zR]
       rfl
      refine zT (i := 14) (N := some 30) (v := ?_) (a' := ?_) #[true, true, true, true, true, true, true, true, true, true, true, true, true, true, true, true, false, false] rfl rfl (zN HT_.out (by kernel_rfl)) (fun _ _ _ h => h) (Or.inl ⟨by rfl, ?_⟩) ?_ ?_
      rotate_left
      ·
       intro w'
       go_simp
       with_reducible rfl
      rotate_left
      ·
       simp only [Act.put, List.setIfInBounds_toArray, List.set_cons_zero, List.set_cons_succ, zQ, zR]
       rfl
      exact yA (by first | (simp only [putAll, Act.put, List.setIfInBounds_toArray, List.set_cons_zero, List.set_cons_succ]; done) | (simp only [putAll, Act.put, List.setIfInBounds_toArray, List.set_cons_zero, List.set_cons_succ]; rfl)) (hJ2_5_9_11_15 (gb1799) _ ⟨hHeld, (by (with_reducible repeat (first | refine zE ?_ _ | refine zI ?_ | refine zD ?_ _)); exact BK1791.out), (by (with_reducible repeat (first | refine zE ?_ _ | refine zI ?_ | refine zD ?_ _)); exact BK1799.out), GW1799.out, GE1799.out, NB1791_1799.out, NB1799_1791.out, (by repeat (first | (with_reducible first | exact HB.out | apply zG | apply zA | apply zF | refine zH ?_ GE1791.out | refine zH ?_ GE1799.out) | exact HB.out))⟩)
    ·
     skip
     rintro _ w15 ⟨hS_, h0_, h1_⟩
     have n0_ : zC (w15.heap[gb1791]? = some (.cells #[.int .i64 a0_0, .int .i64 a0_1, .int .i64 a0_2, .int .i64 a0_3, .slice A0_4 l0_4.length c0_4] 30 (0, 0))) := ⟨h0_⟩
     have n1_ : zC (Below w.heap.size w w15) := ⟨h1_⟩
     clear BK1791
     clear HB
     clear h0_ h1_
     have BK1791 := n0_
     have HB := n1_
     clear n0_ n1_
     have hHeld : w15.cell? ⟨gb1791, 0, none⟩ = some (.int .i64 a0_0) ∧ w15.cell? ⟨gb1791, 1, none⟩ = some (.int .i64 a0_1) ∧ w15.cell? ⟨gb1791, 2, none⟩ = some (.int .i64 a0_2) ∧ w15.cell? ⟨gb1791, 3, none⟩ = some (.int .i64 a0_3) ∧ w15.cell? ⟨gb1791, 4, none⟩ = some (.slice A0_4 l0_4.length c0_4) := hS_
     refine yA (a' := ?_) ?_ ?_
     rotate_left
     ·
      simp only [putAll, Act.put, List.setIfInBounds_toArray, List.set_cons_zero, List.set_cons_succ]
      rfl
     refine one_ (i := 15) (N := some 10) #[true, true, true, true, true, true, true, true, true, true, true, true, true, true, true, true, false, false] rfl rfl (yB HT_.out (by kernel_rfl)) (by decide) (fun K hK => ?_)
     refine box_step ?hg (N := 10) ?hd (cs := #[.int .i64 0, .int .i64 0, .int .i64 0]) (t := 28) ?hr ?_; (case hd => rfl); (case hg => rfl); (case hr => first | (go_simp; done) | (go_simp; rfl))
     intro gb1799 hg w16 hbox hb
     have n0_ := zC.mk (zK (g := gb1791) (o := .cells #[.int .i64 a0_0, .int .i64 a0_1, .int .i64 a0_2, .int .i64 a0_3, .slice A0_4 l0_4.length c0_4] 30 (0, 0)) (by (with_reducible repeat (first | refine zE ?_ _ | refine zI ?_ | refine zD ?_ _)); exact BK1791.out) hb)
     have n1_ := zC.mk (zL (by repeat (first | (with_reducible first | exact HB.out | apply zG | apply zA | apply zF | refine zH ?_ GE1791.out) | exact HB.out)) hb)
     have n2_ := zC.mk (hbox)
     have n3_ := zC.mk ((by rw [hg]; exact (zM (by repeat (first | (with_reducible first | exact HB.out | apply zG | apply zA | apply zF | refine zH ?_ GE1791.out) | exact HB.out))) : w.heap.size ≤ gb1799))
     have n4_ := zC.mk ((by rw [hg]; exact (zM (by repeat (first | (with_reducible first | exact HB.out | apply zG | apply zA | apply zF | refine zH ?_ GE1791.out) | exact HB.out))) : w.heap.size ≤ gb1799))
     have n5_ := zC.mk ((by rw [hg]; exact Nat.ne_of_lt (zX (by (with_reducible repeat (first | refine zE ?_ _ | refine zI ?_ | refine zD ?_ _)); exact BK1791.out)) : gb1791 ≠ gb1799))
     have n6_ := zC.mk ((by rw [hg]; exact Nat.ne_of_gt (zX (by (with_reducible repeat (first | refine zE ?_ _ | refine zI ?_ | refine zD ?_ _)); exact BK1791.out)) : gb1799 ≠ gb1791))
     clear BK1791
     clear HB
     have BK1791 := n0_
     have HB := n1_
     have BK1799 := n2_
     have GW1799 := n3_
     have GE1799 := n4_
     have NB1791_1799 := n5_
     have NB1799_1791 := n6_
     clear n0_ n1_ n2_ n3_ n4_ n5_ n6_
     clear hb hbox hg
     refine hK.out _ _ ⟨zB BK1791.out 0, zB BK1791.out 1, zB BK1791.out 2, zB BK1791.out 3, zB BK1791.out 4⟩ (fun hHeld => ?_)
     clear hK K
     refine yA (a' := ?_) ?_ ?_
     rotate_left
     ·
      show Act.put _ (some 10) _ = _
      simp only [Act.put, List.setIfInBounds_toArray, List.set_cons_zero, List.set_cons_succ, zQ, zR]
      rfl
     exact yA (by first | (simp only [putAll, Act.put, List.setIfInBounds_toArray, List.set_cons_zero, List.set_cons_succ]; done) | (simp only [putAll, Act.put, List.setIfInBounds_toArray, List.set_cons_zero, List.set_cons_succ]; rfl)) (hJ2_5_9_11_15 (gb1799) _ ⟨hHeld, (by (with_reducible repeat (first | refine zE ?_ _ | refine zI ?_ | refine zD ?_ _)); exact BK1791.out), (by (with_reducible repeat (first | refine zE ?_ _ | refine zI ?_ | refine zD ?_ _)); exact BK1799.out), GW1799.out, GE1799.out, NB1791_1799.out, NB1799_1791.out, (by repeat (first | (with_reducible first | exact HB.out | apply zG | apply zA | apply zF | refine zH ?_ GE1791.out | refine zH ?_ GE1799.out) | exact HB.out))⟩)
   rintro gb1799 w16 ⟨hS_, h0_, h1_, h2_, h3_, h4_, h5_, h6_⟩
   have n0_ : zC (w16.heap[gb1791]? = some (.cells #[.int .i64 a0_0, .int .i64 a0_1, .int .i64 a0_2, .int .i64 a0_3, .slice A0_4 l0_4.length c0_4] 30 (0, 0))) := ⟨h0_⟩
   have n1_ : zC (w16.heap[gb1799]? = some (.cells #[.int .i64 0, .int .i64 0, .int .i64 0] 28 (0, 0))) := ⟨h1_⟩
   have n2_ : zC (w.heap.size ≤ gb1799) := ⟨h2_⟩
   have n3_ : zC (w.heap.size ≤ gb1799) := ⟨h3_⟩
   have n4_ : zC (gb1791 ≠ gb1799) := ⟨h4_⟩
   have n5_ : zC (gb1799 ≠ gb1791) := ⟨h5_⟩
   have n6_ : zC (Below w.heap.size w w16) := ⟨h6_⟩
   clear BK1791
   clear HB
   clear h0_ h1_ h2_ h3_ h4_ h5_ h6_
   have BK1791 := n0_
   have BK1799 := n1_
   have GW1799 := n2_
   have GE1799 := n3_
   have NB1791_1799 := n4_
   have NB1799_1791 := n5_
   have HB := n6_
   clear n0_ n1_ n2_ n3_ n4_ n5_ n6_
   have hHeld : w16.cell? ⟨gb1791, 0, none⟩ = some (.int .i64 a0_0) ∧ w16.cell? ⟨gb1791, 1, none⟩ = some (.int .i64 a0_1) ∧ w16.cell? ⟨gb1791, 2, none⟩ = some (.int .i64 a0_2) ∧ w16.cell? ⟨gb1791, 3, none⟩ = some (.int .i64 a0_3) ∧ w16.cell? ⟨gb1791, 4, none⟩ = some (.slice A0_4 l0_4.length c0_4) := hS_
   refine yA (a' := ?_) ?_ ?_
   rotate_left
   ·
    simp only [putAll, Act.put, List.setIfInBounds_toArray, List.set_cons_zero, List.set_cons_succ]
    rfl
   refine one_ (i := 16) (N := none) #[true, true, true, true, true, true, true, true, true, true, true, true, true, true, true, true, true, false] rfl rfl (yB HT_.out (by kernel_rfl)) (by decide) (fun K hK => ?_)
   have hs17 : w16.cell? ⟨gb1799, 0, none⟩ = some (.int .i64 0) := zB BK1799.out 0
   have hfs17 := zJ BK1799.out 0
   have hns17_0 := NB1791_1799.out
   have hms17_0 := NB1799_1791.out
   have hs18 : w16.cell? ⟨gb1799, 1, none⟩ = some (.int .i64 0) := zB BK1799.out 1
   have hfs18 := zJ BK1799.out 1
   have hns18_0 := NB1791_1799.out
   have hms18_0 := NB1799_1791.out
   have hs19 : w16.cell? ⟨gb1799, 2, none⟩ = some (.int .i64 0) := zB BK1799.out 2
   have hfs19 := zJ BK1799.out 2
   have hns19_0 := NB1791_1799.out
   have hms19_0 := NB1799_1791.out
   refine skip_ (w1 := ?_) (by rfl) rfl ?_ ?_
   rotate_left
   ·
    go_simp
    rfl
   refine hK.out _ _ ⟨((zV (p := ⟨gb1799, _, none⟩) NB1791_1799.out _).trans (((zV (p := ⟨gb1799, _, none⟩) NB1791_1799.out _).trans (((zV (p := ⟨gb1799, _, none⟩) NB1791_1799.out _).trans (hHeld.1)))))), ((zV (p := ⟨gb1799, _, none⟩) NB1791_1799.out _).trans (((zV (p := ⟨gb1799, _, none⟩) NB1791_1799.out _).trans (((zV (p := ⟨gb1799, _, none⟩) NB1791_1799.out _).trans (hHeld.2.1)))))), ((zV (p := ⟨gb1799, _, none⟩) NB1791_1799.out _).trans (((zV (p := ⟨gb1799, _, none⟩) NB1791_1799.out _).trans (((zV (p := ⟨gb1799, _, none⟩) NB1791_1799.out _).trans (hHeld.2.2.1)))))), ((zV (p := ⟨gb1799, _, none⟩) NB1791_1799.out _).trans (((zV (p := ⟨gb1799, _, none⟩) NB1791_1799.out _).trans (((zV (p := ⟨gb1799, _, none⟩) NB1791_1799.out _).trans (hHeld.2.2.2.1)))))), ((zV (p := ⟨gb1799, _, none⟩) NB1791_1799.out _).trans (((zV (p := ⟨gb1799, _, none⟩) NB1791_1799.out _).trans (((zV (p := ⟨gb1799, _, none⟩) NB1791_1799.out _).trans (hHeld.2.2.2.2))))))⟩ (fun hHeld => ?_)
   clear hK K
   refine zT (i := 17) (N := some 11) (v := ?_) (a' := ?_) #[true, true, true, true, true, true, true, true, true, true, true, true, true, true, true, true, true, true] rfl rfl (zN HT_.out (by kernel_rfl)) (fun _ _ _ h => h) (Or.inl ⟨by rfl, ?_⟩) ?_ ?_
   rotate_left
   ·
    intro w'
    go_simp
    with_reducible rfl
   rotate_left
   ·
    simp only [Act.put, List.setIfInBounds_toArray, List.set_cons_zero, List.set_cons_succ, zQ, zR]
    rfl
   refine done_ (done_of HT_.out (by kernel_rfl)) ?_
   go_upto_if 32 with (fail)
   have H := HX11.out
   clear HX11
   by_cases c20 : t1798 = 0
   ·
    rw [if_pos c20] at H
    have c20b0 : (t1798 == 0) = true := beq_iff_eq.mpr c20
    have c20b1 : (t1798 != 0) = false := bne_eq_false_iff_eq.mpr c20
    clear c20
    (first | rw [c20b0] | (simp only [zQ, zR]; rw [c20b0]) | skip)
    replace H := Option.bind_eq_some_iff.mp H
    obtain ⟨⟨t1800, t1801⟩, A210, H⟩ := H
    replace H : (if t1801 = true then ((yP.f k t1795 t1796 t1797).bind fun t1802 => ((yS.f k t1802 t1800 a2 100).bind fun t1803 => (yN.l0 k a2 a3 t1803 0))) else (some (0, 4))) = some (r1, r2) := H
    have A21 := zC.mk A210
    clear A210
    have HX22 := zC.mk H
    clear H
    have hnb23 := NB1799_1791.out
    have hnc23 := NB1791_1799.out
    have hcz24_0 : w16.cell? ⟨gb1799, 0, none⟩ = some (.int .i64 0) := zB BK1799.out 0
    have hcz24_1 : w16.cell? ⟨gb1799, 1, none⟩ = some (.int .i64 0) := zB BK1799.out 1
    have hcz24_2 : w16.cell? ⟨gb1799, 2, none⟩ = some (.int .i64 0) := zB BK1799.out 2
    have hfz24_0 := zJ BK1799.out 0
    have hfz24_1 := zJ BK1799.out 1
    have hfz24_2 := zJ BK1799.out 2
    go_upto_if 41 with (first | ((with_reducible refine zS (f := 110) rfl ?_); refine zZ (some 37) rfl rfl Try.func110 (by kernel_rfl) rfl #[.agg #[.int .i64 t1795, .int .i64 t1796, .int .i64 t1797], .int .i64 a1] rfl (by (try simp only [List.map_toArray, List.map_cons, List.map_nil]); first | done | rfl) ?_; (with_reducible refine (yX.calls k t1795 t1796 t1797 a1 t1800 t1801 _ A21.out).mono ?_); rintro e w25 ⟨rfl, hb⟩; refine ⟨_, rfl, ?_⟩; have n0_ := zC.mk (zK (g := gb1791) (o := .cells #[.int .i64 a0_0, .int .i64 a0_1, .int .i64 a0_2, .int .i64 a0_3, .slice A0_4 l0_4.length c0_4] 30 (0, 0)) (by (with_reducible repeat (first | refine zE ?_ _ | refine zI ?_ | refine zD ?_ _)); refine zW ?_ NB1791_1799.out _; (with_reducible repeat (first | refine zE ?_ _ | refine zI ?_ | refine zD ?_ _)); refine zW ?_ NB1791_1799.out _; (with_reducible repeat (first | refine zE ?_ _ | refine zI ?_ | refine zD ?_ _)); refine zW ?_ NB1791_1799.out _; (with_reducible repeat (first | refine zE ?_ _ | refine zI ?_ | refine zD ?_ _)); exact BK1791.out) hb); have n1_ := zC.mk (zK (g := gb1799) (o := .cells #[.int .i64 t1795, .int .i64 t1796, .int .i64 t1797] 28 (0, 0)) (by (with_reducible repeat (first | refine zE ?_ _ | refine zI ?_ | refine zD ?_ _)); refine zU (cs := #[.int .i64 t1795, .int .i64 t1796, .int .i64 0]) ?_ 2 _ rfl; (with_reducible repeat (first | refine zE ?_ _ | refine zI ?_ | refine zD ?_ _)); refine zU (cs := #[.int .i64 t1795, .int .i64 0, .int .i64 0]) ?_ 1 _ rfl; (with_reducible repeat (first | refine zE ?_ _ | refine zI ?_ | refine zD ?_ _)); refine zU (cs := #[.int .i64 0, .int .i64 0, .int .i64 0]) ?_ 0 _ rfl; (with_reducible repeat (first | refine zE ?_ _ | refine zI ?_ | refine zD ?_ _)); exact BK1799.out) hb); have n2_ := zC.mk (zL (by repeat (first | (with_reducible first | exact HB.out | apply zG | apply zA | apply zF | refine zH ?_ GE1791.out | refine zH ?_ GE1799.out) | exact HB.out)) hb); clear BK1791; clear BK1799; clear HB; have BK1791 := n0_; have BK1799 := n1_; have HB := n2_; clear n0_ n1_ n2_; (try clear hb)))
    have H := HX22.out
    clear HX22
    by_cases c26 : t1801 = true
    ·
     subst c26
     have H1 : ((yP.f k t1795 t1796 t1797).bind fun t1802 => ((yS.f k t1802 t1800 a2 100).bind fun t1803 => (yN.l0 k a2 a3 t1803 0))) = some (r1, r2) := by rw [if_pos rfl] at H; exact H
     clear H
     have H := H1
     clear H1
     replace H := Option.bind_eq_some_iff.mp H
     obtain ⟨t1802, A270, H⟩ := H
     replace H : ((yS.f k t1802 t1800 a2 100).bind fun t1803 => (yN.l0 k a2 a3 t1803 0)) = some (r1, r2) := H
     have A27 := zC.mk A270
     clear A270
     replace H := Option.bind_eq_some_iff.mp H
     obtain ⟨t1803, A280, H⟩ := H
     replace H : (yN.l0 k a2 a3 t1803 0) = some (r1, r2) := H
     have A28 := zC.mk A280
     clear A280
     have H' := zC.mk H
     clear H
     have hnb29 := NB1799_1791.out
     have hnc29 := NB1791_1799.out
     have hcz30_0 : w25.cell? ⟨gb1799, 0, none⟩ = some (.int .i64 t1795) := zB BK1799.out 0
     have hcz30_1 : w25.cell? ⟨gb1799, 1, none⟩ = some (.int .i64 t1796) := zB BK1799.out 1
     have hcz30_2 : w25.cell? ⟨gb1799, 2, none⟩ = some (.int .i64 t1797) := zB BK1799.out 2
     have hfz30_0 := zJ BK1799.out 0
     have hfz30_1 := zJ BK1799.out 1
     have hfz30_2 := zJ BK1799.out 2
     go_wp2_with (first | ((with_reducible refine zS (f := 106) rfl ?_); refine zZ (some 43) rfl rfl Try.func106 (by kernel_rfl) rfl #[.agg #[.int .i64 t1795, .int .i64 t1796, .int .i64 t1797]] rfl (by (try simp only [List.map_toArray, List.map_cons, List.map_nil]); first | done | rfl) ?_; (with_reducible refine (yP.calls k t1795 t1796 t1797 t1802 _ A27.out).mono ?_); rintro e w31 ⟨rfl, hb⟩; refine ⟨_, rfl, ?_⟩; have n0_ := zC.mk (zK (g := gb1791) (o := .cells #[.int .i64 a0_0, .int .i64 a0_1, .int .i64 a0_2, .int .i64 a0_3, .slice A0_4 l0_4.length c0_4] 30 (0, 0)) (by (with_reducible repeat (first | refine zE ?_ _ | refine zI ?_ | refine zD ?_ _)); exact BK1791.out) hb); have n1_ := zC.mk (zK (g := gb1799) (o := .cells #[.int .i64 t1795, .int .i64 t1796, .int .i64 t1797] 28 (0, 0)) (by (with_reducible repeat (first | refine zE ?_ _ | refine zI ?_ | refine zD ?_ _)); exact BK1799.out) hb); have n2_ := zC.mk (zL (by repeat (first | (with_reducible first | exact HB.out | apply zG | apply zA | apply zF | refine zH ?_ GE1791.out | refine zH ?_ GE1799.out) | exact HB.out)) hb); clear BK1791; clear BK1799; clear HB; have BK1791 := n0_; have BK1799 := n1_; have HB := n2_; clear n0_ n1_ n2_; (try clear hb)) | ((with_reducible refine zS (f := 113) rfl ?_); refine zZ (some 46) rfl rfl Try.func113 (by kernel_rfl) rfl #[.int .i64 t1802, .int .i64 t1800, .int .i64 a2, .int .i64 100] rfl (by (try simp only [List.map_toArray, List.map_cons, List.map_nil]); first | done | rfl) ?_; (with_reducible refine (yS.calls k t1802 t1800 a2 100 t1803 _ A28.out).mono ?_); rintro e w32 ⟨v1804, rfl, ho0, hb⟩; refine ⟨_, rfl, ?_⟩; have n0_ := zC.mk (Kd.R_lower ho0 (zM (by repeat (first | (with_reducible first | exact HB.out | apply zG | apply zA | apply zF | refine zH ?_ GE1791.out | refine zH ?_ GE1799.out) | exact HB.out)))); have n1_ := zC.mk (zK (g := gb1791) (o := .cells #[.int .i64 a0_0, .int .i64 a0_1, .int .i64 a0_2, .int .i64 a0_3, .slice A0_4 l0_4.length c0_4] 30 (0, 0)) (by (with_reducible repeat (first | refine zE ?_ _ | refine zI ?_ | refine zD ?_ _)); exact BK1791.out) hb); have n2_ := zC.mk (zK (g := gb1799) (o := .cells #[.int .i64 t1795, .int .i64 t1796, .int .i64 t1797] 28 (0, 0)) (by (with_reducible repeat (first | refine zE ?_ _ | refine zI ?_ | refine zD ?_ _)); exact BK1799.out) hb); have n3_ := zC.mk (zL (by repeat (first | (with_reducible first | exact HB.out | apply zG | apply zA | apply zF | refine zH ?_ GE1791.out | refine zH ?_ GE1799.out) | exact HB.out)) hb); clear BK1791; clear BK1799; clear HB; have HO1805 := n0_; have BK1791 := n1_; have BK1799 := n2_; have HB := n3_; clear n0_ n1_ n2_ n3_; (try clear hb); (try clear ho0)))
     go_loopg [15] k (fun kq v15 w' => ∃ (x15_1 : Int), v15 = .int .i64 x15_1 ∧ zC (yN.l0 kq a2 a3 t1803 x15_1 = some (r1, r2)) ∧ zC (kq ≤ k) ∧ zC (Kd.R (Kd.int .i64) 2 w' w.heap.size (fun _ => True) v1804 t1803) ∧ zC (w'.heap[gb1791]? = some (.cells #[.int .i64 a0_0, .int .i64 a0_1, .int .i64 a0_2, .int .i64 a0_3, (.slice A0_4 l0_4.length c0_4)] 30 (0, 0))) ∧ zC (w'.heap[gb1799]? = some (.cells #[.int .i64 t1795, .int .i64 t1796, .int .i64 t1797] 28 (0, 0))) ∧ zC (Below w.heap.size w w'))
     case atStart => exact ⟨(0), (by first | rfl | (simp; done) | (simp [*]; done)), H', ⟨Nat.le_refl _⟩, ⟨by (with_reducible repeat (first | apply Kd.R_alloc | apply Kd.R_drewN | apply Kd.R_drew)); exact HO1805.out⟩, ⟨by (with_reducible repeat (first | refine zE ?_ _ | refine zI ?_ | refine zD ?_ _)); exact BK1791.out⟩, ⟨by (with_reducible repeat (first | refine zE ?_ _ | refine zI ?_ | refine zD ?_ _)); exact BK1799.out⟩, ⟨by repeat (first | (with_reducible first | exact HB.out | apply zG | apply zA | apply zF | refine zH ?_ GE1791.out | refine zH ?_ GE1799.out) | exact HB.out)⟩⟩
     case round =>
      clear H'
      try clear c1
      try clear c2
      try clear p2
      try clear c9
      try clear c10
      try clear c11
      try clear c20
      try clear c20b0
      try clear c20b1
      try clear c23
      try clear c26
      try clear c29
      try clear hcz24_0
      try clear hcz24_1
      try clear hcz24_2
      try clear hcz30_0
      try clear hcz30_1
      try clear hcz30_2
      try clear hfz24_0
      try clear hfz24_1
      try clear hfz24_2
      try clear hfz30_0
      try clear hfz30_1
      try clear hfz30_2
      obtain ⟨x15_1, rfl, HA, HK1, HO_14, BK1791, BK1799, HB⟩ := hrel
      cases gk with
      | zero => exact absurd HA.out (by simp [yN.l0])
      | succ k1 =>
       have H := HA.out
       clear HA
       simp only [yN.l0] at H
       by_cases c33 : x15_1 < 100
       ·
        rw [if_pos c33] at H
        have c33b0 : decide (x15_1 < 100) = true := decide_eq_true c33
        clear c33
        by_cases c34 : 0 ≤ x15_1
        ·
         rw [if_pos c34] at H
         have c34b0 : decide (0 ≤ x15_1) = true := decide_eq_true c34
         clear c34
         by_cases c35 : x15_1 < (t1803.length : Int)
         ·
          rw [if_pos c35] at H
          have c35b0 : decide (x15_1 < (t1803.length : Int)) = true := decide_eq_true c35
          clear c35
          by_cases c36 : (wrap64 ((rd t1803 x15_1) + a2)) ≤ a3
          ·
           rw [if_pos c36] at H
           have c36b0 : decide ((wrap64 ((rd t1803 x15_1) + a2)) ≤ a3) = true := decide_eq_true c36
           clear c36
           have H' := zC.mk H
           clear H
           obtain ⟨Ao37, co37, eo37⟩ := Kd.R_slice HO_14.out
           subst eo37
           have p1806 : 0 ≤ (x15_1 : Int) := of_decide_eq_true (by first | (with_reducible assumption) | assumption)
           have q1806 : x15_1 < (t1803.length : Int) := of_decide_eq_true (by first | (with_reducible assumption) | assumption)
           obtain ⟨ad1806, e1806, hx1806_0⟩ := Kd.at_int (Kd.R_reads' HO_14.out).2.2 x15_1 p1806 q1806
           cases e1806
           replace p1806 := eq_true p1806
           replace q1806 := eq_true q1806
           go_wp2
           go_roundg k1
           case measure => have := HK1.out; omega
           case rel => exact ⟨(wrap64 (x15_1 + 1)), (by first | rfl | (simp; done) | (simp [*]; done)), H', ⟨by have := HK1.out; omega⟩, ⟨by (with_reducible repeat (first | apply Kd.R_alloc | apply Kd.R_drewN | apply Kd.R_drew)); exact HO_14.out⟩, ⟨by (with_reducible repeat (first | refine zE ?_ _ | refine zI ?_ | refine zD ?_ _)); exact BK1791.out⟩, ⟨by (with_reducible repeat (first | refine zE ?_ _ | refine zI ?_ | refine zD ?_ _)); exact BK1799.out⟩, ⟨by repeat (first | (with_reducible first | exact HB.out | apply zG | apply zA | apply zF | refine zH ?_ GE1791.out | refine zH ?_ GE1799.out) | exact HB.out)⟩⟩
          ·
           rw [if_neg c36] at H
           have c36b0 : decide ((wrap64 ((rd t1803 x15_1) + a2)) ≤ a3) = false := decide_eq_false c36
           clear c36
           simp only [Option.some.injEq, Prod.mk.injEq] at H
           obtain ⟨rfl, rfl⟩ := H
           obtain ⟨Ao38, co38, eo38⟩ := Kd.R_slice HO_14.out
           subst eo38
           have p1806 : 0 ≤ (x15_1 : Int) := of_decide_eq_true (by first | (with_reducible assumption) | assumption)
           have q1806 : x15_1 < (t1803.length : Int) := of_decide_eq_true (by first | (with_reducible assumption) | assumption)
           obtain ⟨ad1806, e1806, hx1806_0⟩ := Kd.at_int (Kd.R_reads' HO_14.out).2.2 x15_1 p1806 q1806
           cases e1806
           replace p1806 := eq_true p1806
           replace q1806 := eq_true q1806
           go_wp2
           go_ret2
           exact ⟨by first | rfl | (simp [*, errW_none, errW_some] <;> rfl), by repeat (first | (with_reducible first | exact HB.out | apply zG | apply zA | apply zF | refine zH ?_ GE1791.out | refine zH ?_ GE1799.out) | exact HB.out)⟩
         ·
          rw [if_neg c35] at H
          exact absurd H (by simp)
        ·
         rw [if_neg c34] at H
         exact absurd H (by simp)
       ·
        rw [if_neg c33] at H
        have c33b0 : decide (x15_1 < 100) = false := decide_eq_false c33
        clear c33
        simp only [Option.some.injEq, Prod.mk.injEq] at H
        obtain ⟨rfl, rfl⟩ := H
        go_wp2
        go_ret2
        exact ⟨by first | rfl | (simp [*, errW_none, errW_some] <;> rfl), by repeat (first | (with_reducible first | exact HB.out | apply zG | apply zA | apply zF | refine zH ?_ GE1791.out | refine zH ?_ GE1799.out) | exact HB.out)⟩
    ·
     replace c26 := Bool.eq_false_iff.mpr c26
     subst c26
     have H1 : (some (0, 4)) = some (r1, r2) := by rw [if_neg (show ¬ (false = true) by decide)] at H; exact H
     clear H
     have H := H1
     clear H1
     simp only [Option.some.injEq, Prod.mk.injEq] at H
     obtain ⟨rfl, rfl⟩ := H
     go_wp2
     go_ret2
     exact ⟨by first | rfl | (simp [*, errW_none, errW_some] <;> rfl), by repeat (first | (with_reducible first | exact HB.out | apply zG | apply zA | apply zF | refine zH ?_ GE1791.out | refine zH ?_ GE1799.out) | exact HB.out)⟩
   ·
    rw [if_neg c20] at H
    have c20b0 : (t1798 == 0) = false := beq_eq_false_iff_ne.mpr c20
    have c20b1 : (t1798 != 0) = true := bne_iff_ne.mpr c20
    (first | rw [c20b0] | (simp only [zQ, zR]; rw [c20b0]) | skip)
    simp only [Option.some.injEq, Prod.mk.injEq] at H
    obtain ⟨rfl, rfl⟩ := H
    go_wp2
    go_ret2
    exact ⟨by first | rfl | (simp [*, errW_none, errW_some] <;> rfl), by repeat (first | (with_reducible first | exact HB.out | apply zG | apply zA | apply zF | refine zH ?_ GE1791.out | refine zH ?_ GE1799.out) | exact HB.out)⟩
  ·
   replace c8 := Bool.eq_false_iff.mpr c8
   subst c8
   have H1 : ((yQ.f k a0_0 a0_1 a0_2 a0_3 l0_4 false).bind fun bt1807 => (if bt1807.2.2.2 = 0 then (none) else (some (0, bt1807.2.2.2)))) = some (r1, r2) := by rw [if_neg (show ¬ (false = true) by decide)] at H; exact H
   clear H
   have H := H1
   clear H1
   replace H := Option.bind_eq_some_iff.mp H
   obtain ⟨⟨t1807, t1808, t1809, t1810⟩, A390, H⟩ := H
   replace H : (if t1810 = 0 then (none) else (some (0, t1810))) = some (r1, r2) := H
   have A39 := zC.mk A390
   clear A390
   by_cases c40 : t1810 = 0
   ·
    rw [if_pos c40] at H
    exact absurd H (by simp)
   ·
    rw [if_neg c40] at H
    have c40b0 : (t1810 == 0) = false := beq_eq_false_iff_ne.mpr c40
    have c40b1 : (t1810 != 0) = true := bne_iff_ne.mpr c40
    simp only [Option.some.injEq, Prod.mk.injEq] at H
    obtain ⟨rfl, rfl⟩ := H
    go_enter Try.func54, Try.ntmps54
    try go_wp2_with (first | ((with_reducible refine zP (N := 4) rfl ?_); refine zO ?hg (N := 4) ?hd (cs := #[.int .i64 a0_0, .int .i64 a0_1, .int .i64 a0_2, .int .i64 a0_3, .slice A0_4 l0_4.length c0_4]) (t := 30) ?hr ?_; (case hd => rfl); (case hg => rfl); (case hr => first | (go_simp; done) | (go_simp; rfl)); intro gb1791 hg w41 hbox hb; have n0_ := zC.mk (zL (by repeat (first | (with_reducible first | exact HB.out | apply zG | apply zA | apply zF) | exact HB.out)) hb); have n1_ := zC.mk (hbox); have n2_ := zC.mk ((by rw [hg]; exact (zM (by repeat (first | (with_reducible first | exact HB.out | apply zG | apply zA | apply zF) | exact HB.out))) : w.heap.size ≤ gb1791)); have n3_ := n2_; clear HB; have HB := n0_; have BK1791 := n1_; have GW1791 := n2_; have GE1791 := n3_; clear n0_ n1_ n2_ n3_; clear hb hbox hg))
    have n0_ := zC.mk (zI BK1791.out)
    have n1_ := zC.mk (zF HB.out)
    clear BK1791
    clear HB
    have BK1791 := n0_
    have HB := n1_
    clear n0_ n1_
    refine start_ (n := 18) (S := fun w' => w'.cell? ⟨gb1791, 0, none⟩ = some (.int .i64 a0_0) ∧ w'.cell? ⟨gb1791, 1, none⟩ = some (.int .i64 a0_1) ∧ w'.cell? ⟨gb1791, 2, none⟩ = some (.int .i64 a0_2) ∧ w'.cell? ⟨gb1791, 3, none⟩ = some (.int .i64 a0_3) ∧ w'.cell? ⟨gb1791, 4, none⟩ = some (.slice A0_4 l0_4.length c0_4)) (ds := []) #[false, false, false, false, false, false, false, false, false, false, false, false, false, false, false, false, false, false] (by kernel_rfl) rfl rfl ⟨zB BK1791.out 0, zB BK1791.out 1, zB BK1791.out 2, zB BK1791.out 3, zB BK1791.out 4⟩ (fun hHeld => ?_); refine yE yN.tab1 yN.bits1 (fun HT_ HW_ => ?_)
    generalize w41.drew = w42 at BK1791 HB hHeld ⊢
    refine zT (i := 1) (N := some 18) (v := ?_) (a' := ?_) #[false, true, false, false, false, false, false, false, false, false, false, false, false, false, false, false, false, false] rfl rfl (zN HT_.out (by kernel_rfl)) (fun _ _ _ h => h) (Or.inl ⟨by rfl, ?_⟩) ?_ ?_
    rotate_left
    ·
     intro w'
     go_simp
     with_reducible rfl
    rotate_left
    ·
     simp only [Act.put, List.setIfInBounds_toArray, List.set_cons_zero, List.set_cons_succ, zQ, zR]
     rfl
    refine yC (i := 0) (N := some 17) (v := ?_) (a' := ?_) #[true, true, false, false, false, false, false, false, false, false, false, false, false, false, false, false, false, false] rfl rfl (zY HT_.out HW_.out (by kernel_rfl)) (fun _ _ _ h => h) (Or.inl ⟨by rfl, ?_⟩) hHeld ?_ ?_
    rotate_left
    ·
     rintro w' ⟨s0, s1, s2, s3, s4⟩
     go_simp
     with_reducible rfl
    rotate_left
    ·
     simp only [Act.put, List.setIfInBounds_toArray, List.set_cons_zero, List.set_cons_succ, zQ, zR]
     rfl
    refine join_ (σ := Nat) 2 #[true, true, true, true, true, true, true, true, true, true, true, true, true, true, true, true, false, false] (fun s_ => [(19, .bool true), (22, .bool false), (28, .tuple #[.agg #[.int .i64 t1807, .int .i64 t1808, .int .i64 t1809], .int .i64 t1810]), (10, .pointer (some ⟨s_, 0, none⟩)), (20, .bool true), (21, .int .i64 a2), (23, .bool false), (24, .bool false), (25, undef), (26, undef), (27, .bool false), (16, .tuple #[.agg #[.int .i64 t1807, .int .i64 t1808, .int .i64 t1809], .int .i64 t1810]), (29, .agg #[.int .i64 t1807, .int .i64 t1808, .int .i64 t1809]), (30, .int .i64 t1810)]) (fun s_ w' => (w'.cell? ⟨gb1791, 0, none⟩ = some (.int .i64 a0_0) ∧ w'.cell? ⟨gb1791, 1, none⟩ = some (.int .i64 a0_1) ∧ w'.cell? ⟨gb1791, 2, none⟩ = some (.int .i64 a0_2) ∧ w'.cell? ⟨gb1791, 3, none⟩ = some (.int .i64 a0_3) ∧ w'.cell? ⟨gb1791, 4, none⟩ = some (.slice A0_4 l0_4.length c0_4)) ∧ (w'.heap[gb1791]? = some (.cells #[.int .i64 a0_0, .int .i64 a0_1, .int .i64 a0_2, .int .i64 a0_3, .slice A0_4 l0_4.length c0_4] 30 (0, 0))) ∧ (w'.heap[s_]? = some (.cells #[.int .i64 0, .int .i64 0, .int .i64 0] 28 (0, 0))) ∧ (w.heap.size ≤ s_) ∧ (w.heap.size ≤ s_) ∧ (gb1791 ≠ s_) ∧ (s_ ≠ gb1791) ∧ (Below w.heap.size w w')) ?_ ?_
    rotate_left
    ·
     intro hCont
     refine two_ (i := 2) (j := 15) (Ni := some 19) (Nj := some 10) #[true, true, true, false, false, false, false, false, false, false, false, false, false, false, false, false, false, false] #[true, true, false, false, false, false, false, false, false, false, false, false, false, false, false, true, false, false] rfl rfl rfl rfl (two_of HT_.out (by kernel_rfl)) (by decide) (by decide) (fun K hK => ?_) (fun K hK => ?_)
     ·
      skip
      refine yD Try.func92 (by kernel_rfl) rfl #[.int .i64 a1, .int .i64 1, .int .i64 1000] (by rfl) rfl rfl (by (try simp only [List.map_toArray, List.map_cons, List.map_nil]); first | done | rfl) ?_
      with_reducible refine (xG.calls a1 1 1000 true _ A5.out).mono ?_
      rintro e w' ⟨rfl, ⟨nd, rfl⟩⟩
      refine ⟨_, rfl, ?_⟩
      refine hK.out _ _ ⟨zB BK1791.out 0, zB BK1791.out 1, zB BK1791.out 2, zB BK1791.out 3, zB BK1791.out 4⟩ (fun hHeld => ?_)
      clear hK K
      refine yA (a' := ?_) ?_ ?_
      rotate_left
      ·
       show Act.put _ (some 19) _ = _
       simp only [Act.put, List.setIfInBounds_toArray, List.set_cons_zero, List.set_cons_succ, zQ, zR]
       rfl
      refine zT (i := 3) (N := some 20) (v := ?_) (a' := ?_) #[true, true, true, true, false, false, false, false, false, false, false, false, false, false, false, false, false, false] rfl rfl (zN HT_.out (by kernel_rfl)) (fun _ _ _ h => h) (Or.inl ⟨by rfl, ?_⟩) ?_ ?_
      rotate_left
      ·
       intro w'
       go_simp
       with_reducible rfl
      rotate_left
      ·
       simp only [Act.put, List.setIfInBounds_toArray, List.set_cons_zero, List.set_cons_succ, zQ, zR]
       rfl
      refine zT (i := 4) (N := some 21) (v := ?_) (a' := ?_) #[true, true, true, true, true, false, false, false, false, false, false, false, false, false, false, false, false, false] rfl rfl (zN HT_.out (by kernel_rfl)) (fun _ _ _ h => h) (Or.inl ⟨by rfl, ?_⟩) ?_ ?_
      rotate_left
      ·
       intro w'
       go_simp
       with_reducible rfl
      rotate_left
      ·
       simp only [Act.put, List.setIfInBounds_toArray, List.set_cons_zero, List.set_cons_succ, zQ, zR]
       rfl
      refine two_ (i := 5) (j := 15) (Ni := some 22) (Nj := some 10) #[true, true, true, true, true, true, false, false, false, false, false, false, false, false, false, false, false, false] #[true, true, true, true, true, false, false, false, false, false, false, false, false, false, false, true, false, false] rfl rfl rfl rfl (two_of HT_.out (by kernel_rfl)) (by decide) (by decide) (fun K hK => ?_) (fun K hK => ?_)
      ·
       skip
       refine yD Try.func92 (by kernel_rfl) rfl #[.int .i64 a2, .int .i64 1, .int .i64 1000] (by rfl) rfl rfl (by (try simp only [List.map_toArray, List.map_cons, List.map_nil]); first | done | rfl) ?_
       with_reducible refine (xG.calls a2 1 1000 false _ A7.out).mono ?_
       rintro e w' ⟨rfl, ⟨nd, rfl⟩⟩
       refine ⟨_, rfl, ?_⟩
       refine hK.out _ _ ⟨zB BK1791.out 0, zB BK1791.out 1, zB BK1791.out 2, zB BK1791.out 3, zB BK1791.out 4⟩ (fun hHeld => ?_)
       clear hK K
       refine yA (a' := ?_) ?_ ?_
       rotate_left
       ·
        show Act.put _ (some 22) _ = _
        simp only [Act.put, List.setIfInBounds_toArray, List.set_cons_zero, List.set_cons_succ, zQ, zR]
        rfl
       refine zT (i := 6) (N := some 23) (v := ?_) (a' := ?_) #[true, true, true, true, true, true, true, false, false, false, false, false, false, false, false, false, false, false] rfl rfl (zN HT_.out (by kernel_rfl)) (fun _ _ _ h => h) (Or.inl ⟨by rfl, ?_⟩) ?_ ?_
       rotate_left
       ·
        intro w'
        go_simp
        with_reducible rfl
       rotate_left
       ·
        simp only [Act.put, List.setIfInBounds_toArray, List.set_cons_zero, List.set_cons_succ, zQ, zR]
        rfl
       refine zT (i := 7) (N := some 24) (v := ?_) (a' := ?_) #[true, true, true, true, true, true, true, true, false, false, false, false, false, false, false, false, false, false] rfl rfl (zN HT_.out (by kernel_rfl)) (fun _ _ _ h => h) (Or.inl ⟨by rfl, ?_⟩) ?_ ?_
       rotate_left
       ·
        intro w'
        go_simp
        with_reducible rfl
       rotate_left
       ·
        simp only [Act.put, List.setIfInBounds_toArray, List.set_cons_zero, List.set_cons_succ, zQ, zR]
        rfl
       refine zT (i := 8) (N := some 25) (v := undef) (a' := ?_) #[true, true, true, true, true, true, true, true, true, false, false, false, false, false, false, false, false, false] rfl rfl (zN HT_.out (by kernel_rfl)) (fun _ _ _ h => h) (Or.inr ⟨by rfl, rfl⟩) ?_ ?_
       rotate_left
       ·
        simp only [Act.put, List.setIfInBounds_toArray, List.set_cons_zero, List.set_cons_succ, zQ, zR]
        rfl
       refine zT (i := 9) (N := some 26) (v := undef) (a' := ?_) #[true, true, true, true, true, true, true, true, true, true, false, false, false, false, false, false, false, false] rfl rfl (zN HT_.out (by kernel_rfl)) (fun _ _ _ h => h) (Or.inr ⟨by rfl, rfl⟩) ?_ ?_
       rotate_left
       ·
        simp only [Act.put, List.setIfInBounds_toArray, List.set_cons_zero, List.set_cons_succ, zQ, zR]
        rfl
       refine zT (i := 10) (N := some 27) (v := ?_) (a' := ?_) #[true, true, true, true, true, true, true, true, true, true, true, false, false, false, false, false, false, false] rfl rfl (zN HT_.out (by kernel_rfl)) (fun _ _ _ h => h) (Or.inl ⟨by rfl, ?_⟩) ?_ ?_
       rotate_left
       ·
        intro w'
        go_simp
        with_reducible rfl
       rotate_left
       ·
        simp only [Act.put, List.setIfInBounds_toArray, List.set_cons_zero, List.set_cons_succ, zQ, zR]
        rfl
       refine two_ (i := 11) (j := 15) (Ni := some 28) (Nj := some 10) #[true, true, true, true, true, true, true, true, true, true, true, true, false, false, false, false, false, false] #[true, true, true, true, true, true, true, true, true, true, true, false, false, false, false, true, false, false] rfl rfl rfl rfl (two_of HT_.out (by kernel_rfl)) (by decide) (by decide) (fun K hK => ?_) (fun K hK => ?_)
       ·
        skip
        refine yD Try.func105 (by kernel_rfl) rfl #[.agg #[.int .i64 a0_0, .int .i64 a0_1, .int .i64 a0_2, .int .i64 a0_3, .slice A0_4 l0_4.length c0_4], .bool false] (by rfl) rfl rfl (by (try simp only [List.map_toArray, List.map_cons, List.map_nil]); first | done | rfl) ?_
        with_reducible refine (yQ.calls k a0_0 a0_1 a0_2 a0_3 _ _ l0_4 false t1807 t1808 t1809 t1810 _ ?side1 ?side2 A39.out).mono ?_
        (case side1 => repeat (first | exact (Kd.C_below HR0_4.out (by repeat (first | (with_reducible first | exact HB.out | apply zG | apply zA | apply zF | refine zH ?_ GE1791.out) | exact HB.out))) | (with_reducible refine Kd.C_alloc ?_ _) | (with_reducible refine Kd.C_drewN ?_ _) | (with_reducible refine Kd.C_drew ?_)))
        (case side2 => exact HC0_4.out)
        rintro e w43 ⟨rfl, hb⟩
        refine ⟨_, rfl, ?_⟩
        have n0_ := zC.mk (zK (g := gb1791) (o := .cells #[.int .i64 a0_0, .int .i64 a0_1, .int .i64 a0_2, .int .i64 a0_3, .slice A0_4 l0_4.length c0_4] 30 (0, 0)) (by (with_reducible repeat (first | refine zE ?_ _ | refine zI ?_ | refine zD ?_ _)); exact BK1791.out) hb)
        have n1_ := zC.mk (zL (by repeat (first | (with_reducible first | exact HB.out | apply zG | apply zA | apply zF | refine zH ?_ GE1791.out) | exact HB.out)) hb)
        clear BK1791
        clear HB
        have BK1791 := n0_
        have HB := n1_
        clear n0_ n1_
        (try clear hb)
        refine hK.out _ _ ⟨zB BK1791.out 0, zB BK1791.out 1, zB BK1791.out 2, zB BK1791.out 3, zB BK1791.out 4⟩ (fun hHeld => ?_)
        clear hK K
        refine yA (a' := ?_) ?_ ?_
        rotate_left
        ·
         show Act.put _ (some 28) _ = _
         simp only [Act.put, List.setIfInBounds_toArray, List.set_cons_zero, List.set_cons_succ, zQ, zR]
         rfl
        refine zT (i := 12) (N := some 16) (v := ?_) (a' := ?_) #[true, true, true, true, true, true, true, true, true, true, true, true, true, false, false, false, false, false] rfl rfl (zN HT_.out (by kernel_rfl)) (fun _ _ _ h => h) (Or.inl ⟨by rfl, ?_⟩) ?_ ?_
        rotate_left
        ·
         intro w'
         go_simp
         with_reducible rfl
        rotate_left
        ·
         simp only [Act.put, List.setIfInBounds_toArray, List.set_cons_zero, List.set_cons_succ, zQ, zR]
         rfl
        refine zT (i := 13) (N := some 29) (v := ?_) (a' := ?_) #[true, true, true, true, true, true, true, true, true, true, true, true, true, true, false, false, false, false] rfl rfl (zN HT_.out (by kernel_rfl)) (fun _ _ _ h => h) (Or.inl ⟨by rfl, ?_⟩) ?_ ?_
        rotate_left
        ·
         intro w'
         go_simp
         with_reducible rfl
        rotate_left
        ·
         simp only [Act.put, List.setIfInBounds_toArray, List.set_cons_zero, List.set_cons_succ, zQ, zR]
         rfl
        refine zT (i := 14) (N := some 30) (v := ?_) (a' := ?_) #[true, true, true, true, true, true, true, true, true, true, true, true, true, true, true, false, false, false] rfl rfl (zN HT_.out (by kernel_rfl)) (fun _ _ _ h => h) (Or.inl ⟨by rfl, ?_⟩) ?_ ?_
        rotate_left
        ·
         intro w'
         go_simp
         with_reducible rfl
        rotate_left
        ·
         simp only [Act.put, List.setIfInBounds_toArray, List.set_cons_zero, List.set_cons_succ, zQ, zR]
         rfl
        refine one_ (i := 15) (N := some 10) #[true, true, true, true, true, true, true, true, true, true, true, true, true, true, true, true, false, false] rfl rfl (yB HT_.out (by kernel_rfl)) (by decide) (fun K hK => ?_)
        refine box_step ?hg (N := 10) ?hd (cs := #[.int .i64 0, .int .i64 0, .int .i64 0]) (t := 28) ?hr ?_; (case hd => rfl); (case hg => rfl); (case hr => first | (go_simp; done) | (go_simp; rfl))
        intro gb1811 hg w44 hbox hb
        have n0_ := zC.mk (zK (g := gb1791) (o := .cells #[.int .i64 a0_0, .int .i64 a0_1, .int .i64 a0_2, .int .i64 a0_3, .slice A0_4 l0_4.length c0_4] 30 (0, 0)) (by (with_reducible repeat (first | refine zE ?_ _ | refine zI ?_ | refine zD ?_ _)); exact BK1791.out) hb)
        have n1_ := zC.mk (zL (by repeat (first | (with_reducible first | exact HB.out | apply zG | apply zA | apply zF | refine zH ?_ GE1791.out) | exact HB.out)) hb)
        have n2_ := zC.mk (hbox)
        have n3_ := zC.mk ((by rw [hg]; exact (zM (by repeat (first | (with_reducible first | exact HB.out | apply zG | apply zA | apply zF | refine zH ?_ GE1791.out) | exact HB.out))) : w.heap.size ≤ gb1811))
        have n4_ := zC.mk ((by rw [hg]; exact (zM (by repeat (first | (with_reducible first | exact HB.out | apply zG | apply zA | apply zF | refine zH ?_ GE1791.out) | exact HB.out))) : w.heap.size ≤ gb1811))
        have n5_ := zC.mk ((by rw [hg]; exact Nat.ne_of_lt (zX (by (with_reducible repeat (first | refine zE ?_ _ | refine zI ?_ | refine zD ?_ _)); exact BK1791.out)) : gb1791 ≠ gb1811))
        have n6_ := zC.mk ((by rw [hg]; exact Nat.ne_of_gt (zX (by (with_reducible repeat (first | refine zE ?_ _ | refine zI ?_ | refine zD ?_ _)); exact BK1791.out)) : gb1811 ≠ gb1791))
        clear BK1791
        clear HB
        have BK1791 := n0_
        have HB := n1_
        have BK1811 := n2_
        have GW1811 := n3_
        have GE1811 := n4_
        have NB1791_1811 := n5_
        have NB1811_1791 := n6_
        clear n0_ n1_ n2_ n3_ n4_ n5_ n6_
        clear hb hbox hg
        refine hK.out _ _ ⟨zB BK1791.out 0, zB BK1791.out 1, zB BK1791.out 2, zB BK1791.out 3, zB BK1791.out 4⟩ (fun hHeld => ?_)
        clear hK K
        refine yA (a' := ?_) ?_ ?_
        rotate_left
        ·
         show Act.put _ (some 10) _ = _
         simp only [Act.put, List.setIfInBounds_toArray, List.set_cons_zero, List.set_cons_succ, zQ, zR]
         rfl
        exact yA (by simp only [putAll, Act.put, List.setIfInBounds_toArray, List.set_cons_zero, List.set_cons_succ]) (hCont (gb1811) _ ⟨hHeld, (by (with_reducible repeat (first | refine zE ?_ _ | refine zI ?_ | refine zD ?_ _)); exact BK1791.out), (by (with_reducible repeat (first | refine zE ?_ _ | refine zI ?_ | refine zD ?_ _)); exact BK1811.out), GW1811.out, GE1811.out, NB1791_1811.out, NB1811_1791.out, (by repeat (first | (with_reducible first | exact HB.out | apply zG | apply zA | apply zF | refine zH ?_ GE1791.out | refine zH ?_ GE1811.out) | exact HB.out))⟩)
       ·
        skip
        refine box_step ?hg (N := 10) ?hd (cs := #[.int .i64 0, .int .i64 0, .int .i64 0]) (t := 28) ?hr ?_; (case hd => rfl); (case hg => rfl); (case hr => first | (go_simp; done) | (go_simp; rfl))
        intro gb1811 hg w43 hbox hb
        have n0_ := zC.mk (zK (g := gb1791) (o := .cells #[.int .i64 a0_0, .int .i64 a0_1, .int .i64 a0_2, .int .i64 a0_3, .slice A0_4 l0_4.length c0_4] 30 (0, 0)) (by (with_reducible repeat (first | refine zE ?_ _ | refine zI ?_ | refine zD ?_ _)); exact BK1791.out) hb)
        have n1_ := zC.mk (zL (by repeat (first | (with_reducible first | exact HB.out | apply zG | apply zA | apply zF | refine zH ?_ GE1791.out) | exact HB.out)) hb)
        have n2_ := zC.mk (hbox)
        have n3_ := zC.mk ((by rw [hg]; exact (zM (by repeat (first | (with_reducible first | exact HB.out | apply zG | apply zA | apply zF | refine zH ?_ GE1791.out) | exact HB.out))) : w.heap.size ≤ gb1811))
        have n4_ := zC.mk ((by rw [hg]; exact (zM (by repeat (first | (with_reducible first | exact HB.out | apply zG | apply zA | apply zF | refine zH ?_ GE1791.out) | exact HB.out))) : w.heap.size ≤ gb1811))
        have n5_ := zC.mk ((by rw [hg]; exact Nat.ne_of_lt (zX (by (with_reducible repeat (first | refine zE ?_ _ | refine zI ?_ | refine zD ?_ _)); exact BK1791.out)) : gb1791 ≠ gb1811))
        have n6_ := zC.mk ((by rw [hg]; exact Nat.ne_of_gt (zX (by (with_reducible repeat (first | refine zE ?_ _ | refine zI ?_ | refine zD ?_ _)); exact BK1791.out)) : gb1811 ≠ gb1791))
        clear BK1791
        clear HB
        have BK1791 := n0_
        have HB := n1_
        have BK1811 := n2_
        have GW1811 := n3_
        have GE1811 := n4_
        have NB1791_1811 := n5_
        have NB1811_1791 := n6_
        clear n0_ n1_ n2_ n3_ n4_ n5_ n6_
        clear hb hbox hg
        refine hK.out _ _ ⟨zB BK1791.out 0, zB BK1791.out 1, zB BK1791.out 2, zB BK1791.out 3, zB BK1791.out 4⟩ (fun hHeld => ?_)
        clear hK K
        refine yA (a' := ?_) ?_ ?_
        rotate_left
        ·
         show Act.put _ (some 10) _ = _
         simp only [Act.put, List.setIfInBounds_toArray, List.set_cons_zero, List.set_cons_succ, zQ, zR]
         rfl
        refine one_ (i := 11) (N := some 28) #[true, true, true, true, true, true, true, true, true, true, true, true, false, false, false, true, false, false] rfl rfl (yB HT_.out (by kernel_rfl)) (by decide) (fun K hK => ?_)
        refine yD Try.func105 (by kernel_rfl) rfl #[.agg #[.int .i64 a0_0, .int .i64 a0_1, .int .i64 a0_2, .int .i64 a0_3, .slice A0_4 l0_4.length c0_4], .bool false] (by rfl) rfl rfl (by (try simp only [List.map_toArray, List.map_cons, List.map_nil]); first | done | rfl) ?_
        with_reducible refine (yQ.calls k a0_0 a0_1 a0_2 a0_3 _ _ l0_4 false t1807 t1808 t1809 t1810 _ ?side1 ?side2 A39.out).mono ?_
        (case side1 => repeat (first | exact (Kd.C_below HR0_4.out HB.out) | (with_reducible refine Kd.C_alloc ?_ _) | (with_reducible refine Kd.C_drewN ?_ _) | (with_reducible refine Kd.C_drew ?_)))
        (case side2 => exact HC0_4.out)
        rintro e w44 ⟨rfl, hb⟩
        refine ⟨_, rfl, ?_⟩
        have n0_ := zC.mk (zK (g := gb1791) (o := .cells #[.int .i64 a0_0, .int .i64 a0_1, .int .i64 a0_2, .int .i64 a0_3, .slice A0_4 l0_4.length c0_4] 30 (0, 0)) (by (with_reducible repeat (first | refine zE ?_ _ | refine zI ?_ | refine zD ?_ _)); exact BK1791.out) hb)
        have n1_ := zC.mk (zK (g := gb1811) (o := .cells #[.int .i64 0, .int .i64 0, .int .i64 0] 28 (0, 0)) (by (with_reducible repeat (first | refine zE ?_ _ | refine zI ?_ | refine zD ?_ _)); exact BK1811.out) hb)
        have n2_ := zC.mk (zL (by repeat (first | (with_reducible first | exact HB.out | apply zG | apply zA | apply zF | refine zH ?_ GE1791.out | refine zH ?_ GE1811.out) | exact HB.out)) hb)
        clear BK1791
        clear BK1811
        clear HB
        have BK1791 := n0_
        have BK1811 := n1_
        have HB := n2_
        clear n0_ n1_ n2_
        (try clear hb)
        refine hK.out _ _ ⟨zB BK1791.out 0, zB BK1791.out 1, zB BK1791.out 2, zB BK1791.out 3, zB BK1791.out 4⟩ (fun hHeld => ?_)
        clear hK K
        refine yA (a' := ?_) ?_ ?_
        rotate_left
        ·
         show Act.put _ (some 28) _ = _
         simp only [Act.put, List.setIfInBounds_toArray, List.set_cons_zero, List.set_cons_succ, zQ, zR]
         rfl
        refine zT (i := 12) (N := some 16) (v := ?_) (a' := ?_) #[true, true, true, true, true, true, true, true, true, true, true, true, true, false, false, true, false, false] rfl rfl (zN HT_.out (by kernel_rfl)) (fun _ _ _ h => h) (Or.inl ⟨by rfl, ?_⟩) ?_ ?_
        rotate_left
        ·
         intro w'
         go_simp
         with_reducible rfl
        rotate_left
        ·
         simp only [Act.put, List.setIfInBounds_toArray, List.set_cons_zero, List.set_cons_succ, zQ, zR]
         rfl
        refine zT (i := 13) (N := some 29) (v := ?_) (a' := ?_) #[true, true, true, true, true, true, true, true, true, true, true, true, true, true, false, true, false, false] rfl rfl (zN HT_.out (by kernel_rfl)) (fun _ _ _ h => h) (Or.inl ⟨by rfl, ?_⟩) ?_ ?_
        rotate_left
        ·
         intro w'
         go_simp
         with_reducible rfl
        rotate_left
        ·
         simp only [Act.put, List.setIfInBounds_toArray, List.set_cons_zero, List.set_cons_succ, zQ, zR]
         rfl
        refine zT (i := 14) (N := some 30) (v := ?_) (a' := ?_) #[true, true, true, true, true, true, true, true, true, true, true, true, true, true, true, true, false, false] rfl rfl (zN HT_.out (by kernel_rfl)) (fun _ _ _ h => h) (Or.inl ⟨by rfl, ?_⟩) ?_ ?_
        rotate_left
        ·
         intro w'
         go_simp
         with_reducible rfl
        rotate_left
        ·
         simp only [Act.put, List.setIfInBounds_toArray, List.set_cons_zero, List.set_cons_succ, zQ, zR]
         rfl
        exact yA (by simp only [putAll, Act.put, List.setIfInBounds_toArray, List.set_cons_zero, List.set_cons_succ]) (hCont (gb1811) _ ⟨hHeld, (by (with_reducible repeat (first | refine zE ?_ _ | refine zI ?_ | refine zD ?_ _)); exact BK1791.out), (by (with_reducible repeat (first | refine zE ?_ _ | refine zI ?_ | refine zD ?_ _)); exact BK1811.out), GW1811.out, GE1811.out, NB1791_1811.out, NB1811_1791.out, (by repeat (first | (with_reducible first | exact HB.out | apply zG | apply zA | apply zF | refine zH ?_ GE1791.out | refine zH ?_ GE1811.out) | exact HB.out))⟩)
      ·
       skip
       refine box_step ?hg (N := 10) ?hd (cs := #[.int .i64 0, .int .i64 0, .int .i64 0]) (t := 28) ?hr ?_; (case hd => rfl); (case hg => rfl); (case hr => first | (go_simp; done) | (go_simp; rfl))
       intro gb1811 hg w43 hbox hb
       have n0_ := zC.mk (zK (g := gb1791) (o := .cells #[.int .i64 a0_0, .int .i64 a0_1, .int .i64 a0_2, .int .i64 a0_3, .slice A0_4 l0_4.length c0_4] 30 (0, 0)) (by (with_reducible repeat (first | refine zE ?_ _ | refine zI ?_ | refine zD ?_ _)); exact BK1791.out) hb)
       have n1_ := zC.mk (zL (by repeat (first | (with_reducible first | exact HB.out | apply zG | apply zA | apply zF | refine zH ?_ GE1791.out) | exact HB.out)) hb)
       have n2_ := zC.mk (hbox)
       have n3_ := zC.mk ((by rw [hg]; exact (zM (by repeat (first | (with_reducible first | exact HB.out | apply zG | apply zA | apply zF | refine zH ?_ GE1791.out) | exact HB.out))) : w.heap.size ≤ gb1811))
       have n4_ := zC.mk ((by rw [hg]; exact (zM (by repeat (first | (with_reducible first | exact HB.out | apply zG | apply zA | apply zF | refine zH ?_ GE1791.out) | exact HB.out))) : w.heap.size ≤ gb1811))
       have n5_ := zC.mk ((by rw [hg]; exact Nat.ne_of_lt (zX (by (with_reducible repeat (first | refine zE ?_ _ | refine zI ?_ | refine zD ?_ _)); exact BK1791.out)) : gb1791 ≠ gb1811))
       have n6_ := zC.mk ((by rw [hg]; exact Nat.ne_of_gt (zX (by (with_reducible repeat (first | refine zE ?_ _ | refine zI ?_ | refine zD ?_ _)); exact BK1791.out)) : gb1811 ≠ gb1791))
       clear BK1791
       clear HB
       have BK1791 := n0_
       have HB := n1_
       have BK1811 := n2_
       have GW1811 := n3_
       have GE1811 := n4_
       have NB1791_1811 := n5_
       have NB1811_1791 := n6_
       clear n0_ n1_ n2_ n3_ n4_ n5_ n6_
       clear hb hbox hg
       refine hK.out _ _ ⟨zB BK1791.out 0, zB BK1791.out 1, zB BK1791.out 2, zB BK1791.out 3, zB BK1791.out 4⟩ (fun hHeld => ?_)
       clear hK K
       refine yA (a' := ?_) ?_ ?_
       rotate_left
       ·
        show Act.put _ (some 10) _ = _
        simp only [Act.put, List.setIfInBounds_toArray, List.set_cons_zero, List.set_cons_succ, zQ, zR]
        rfl
       refine one_ (i := 5) (N := some 22) #[true, true, true, true, true, true, false, false, false, false, false, false, false, false, false, true, false, false] rfl rfl (yB HT_.out (by kernel_rfl)) (by decide) (fun K hK => ?_)
       refine yD Try.func92 (by kernel_rfl) rfl #[.int .i64 a2, .int .i64 1, .int .i64 1000] (by rfl) rfl rfl (by (try simp only [List.map_toArray, List.map_cons, List.map_nil]); first | done | rfl) ?_
       with_reducible refine (xG.calls a2 1 1000 false _ A7.out).mono ?_
       rintro e w' ⟨rfl, ⟨nd, rfl⟩⟩
       refine ⟨_, rfl, ?_⟩
       refine hK.out _ _ ⟨zB BK1791.out 0, zB BK1791.out 1, zB BK1791.out 2, zB BK1791.out 3, zB BK1791.out 4⟩ (fun hHeld => ?_)
       clear hK K
       refine yA (a' := ?_) ?_ ?_
       rotate_left
       ·
        show Act.put _ (some 22) _ = _
        simp only [Act.put, List.setIfInBounds_toArray, List.set_cons_zero, List.set_cons_succ, zQ, zR]
        rfl
       refine zT (i := 6) (N := some 23) (v := ?_) (a' := ?_) #[true, true, true, true, true, true, true, false, false, false, false, false, false, false, false, true, false, false] rfl rfl (zN HT_.out (by kernel_rfl)) (fun _ _ _ h => h) (Or.inl ⟨by rfl, ?_⟩) ?_ ?_
       rotate_left
       ·
        intro w'
        go_simp
        with_reducible rfl
       rotate_left
       ·
        simp only [Act.put, List.setIfInBounds_toArray, List.set_cons_zero, List.set_cons_succ, zQ, zR]
        rfl
       refine zT (i := 7) (N := some 24) (v := ?_) (a' := ?_) #[true, true, true, true, true, true, true, true, false, false, false, false, false, false, false, true, false, false] rfl rfl (zN HT_.out (by kernel_rfl)) (fun _ _ _ h => h) (Or.inl ⟨by rfl, ?_⟩) ?_ ?_
       rotate_left
       ·
        intro w'
        go_simp
        with_reducible rfl
       rotate_left
       ·
        simp only [Act.put, List.setIfInBounds_toArray, List.set_cons_zero, List.set_cons_succ, zQ, zR]
        rfl
       refine zT (i := 8) (N := some 25) (v := undef) (a' := ?_) #[true, true, true, true, true, true, true, true, true, false, false, false, false, false, false, true, false, false] rfl rfl (zN HT_.out (by kernel_rfl)) (fun _ _ _ h => h) (Or.inr ⟨by rfl, rfl⟩) ?_ ?_
       rotate_left
       ·
        simp only [Act.put, List.setIfInBounds_toArray, List.set_cons_zero, List.set_cons_succ, zQ, zR]
        rfl
       refine zT (i := 9) (N := some 26) (v := undef) (a' := ?_) #[true, true, true, true, true, true, true, true, true, true, false, false, false, false, false, true, false, false] rfl rfl (zN HT_.out (by kernel_rfl)) (fun _ _ _ h => h) (Or.inr ⟨by rfl, rfl⟩) ?_ ?_
       rotate_left
       ·
        simp only [Act.put, List.setIfInBounds_toArray, List.set_cons_zero, List.set_cons_succ, zQ, zR]
        rfl
       refine zT (i := 10) (N := some 27) (v := ?_) (a' := ?_) #[true, true, true, true, true, true, true, true, true, true, true, false, false, false, false, true, false, false] rfl rfl (zN HT_.out (by kernel_rfl)) (fun _ _ _ h => h) (Or.inl ⟨by rfl, ?_⟩) ?_ ?_
       rotate_left
       ·
        intro w'
        go_simp
        with_reducible rfl
       rotate_left
       ·
        simp only [Act.put, List.setIfInBounds_toArray, List.set_cons_zero, List.set_cons_succ, zQ, zR]
        rfl
       refine one_ (i := 11) (N := some 28) #[true, true, true, true, true, true, true, true, true, true, true, true, false, false, false, true, false, false] rfl rfl (yB HT_.out (by kernel_rfl)) (by decide) (fun K hK => ?_)
       refine yD Try.func105 (by kernel_rfl) rfl #[.agg #[.int .i64 a0_0, .int .i64 a0_1, .int .i64 a0_2, .int .i64 a0_3, .slice A0_4 l0_4.length c0_4], .bool false] (by rfl) rfl rfl (by (try simp only [List.map_toArray, List.map_cons, List.map_nil]); first | done | rfl) ?_
       with_reducible refine (yQ.calls k a0_0 a0_1 a0_2 a0_3 _ _ l0_4 false t1807 t1808 t1809 t1810 _ ?side1 ?side2 A39.out).mono ?_
       (case side1 => repeat (first | exact (Kd.C_below HR0_4.out (by repeat (first | (with_reducible first | exact HB.out | apply zG | apply zA | apply zF | refine zH ?_ GE1791.out | refine zH ?_ GE1811.out) | exact HB.out))) | (with_reducible refine Kd.C_alloc ?_ _) | (with_reducible refine Kd.C_drewN ?_ _) | (with_reducible refine Kd.C_drew ?_)))
       (case side2 => exact HC0_4.out)
       rintro e w44 ⟨rfl, hb⟩
       refine ⟨_, rfl, ?_⟩
       have n0_ := zC.mk (zK (g := gb1791) (o := .cells #[.int .i64 a0_0, .int .i64 a0_1, .int .i64 a0_2, .int .i64 a0_3, .slice A0_4 l0_4.length c0_4] 30 (0, 0)) (by (with_reducible repeat (first | refine zE ?_ _ | refine zI ?_ | refine zD ?_ _)); exact BK1791.out) hb)
       have n1_ := zC.mk (zK (g := gb1811) (o := .cells #[.int .i64 0, .int .i64 0, .int .i64 0] 28 (0, 0)) (by (with_reducible repeat (first | refine zE ?_ _ | refine zI ?_ | refine zD ?_ _)); exact BK1811.out) hb)
       have n2_ := zC.mk (zL (by repeat (first | (with_reducible first | exact HB.out | apply zG | apply zA | apply zF | refine zH ?_ GE1791.out | refine zH ?_ GE1811.out) | exact HB.out)) hb)
       clear BK1791
       clear BK1811
       clear HB
       have BK1791 := n0_
       have BK1811 := n1_
       have HB := n2_
       clear n0_ n1_ n2_
       (try clear hb)
       refine hK.out _ _ ⟨zB BK1791.out 0, zB BK1791.out 1, zB BK1791.out 2, zB BK1791.out 3, zB BK1791.out 4⟩ (fun hHeld => ?_)
       clear hK K
       refine yA (a' := ?_) ?_ ?_
       rotate_left
       ·
        show Act.put _ (some 28) _ = _
        simp only [Act.put, List.setIfInBounds_toArray, List.set_cons_zero, List.set_cons_succ, zQ, zR]
        rfl
       refine zT (i := 12) (N := some 16) (v := ?_) (a' := ?_) #[true, true, true, true, true, true, true, true, true, true, true, true, true, false, false, true, false, false] rfl rfl (zN HT_.out (by kernel_rfl)) (fun _ _ _ h => h) (Or.inl ⟨by rfl, ?_⟩) ?_ ?_
       rotate_left
       ·
        intro w'
        go_simp
        with_reducible rfl
       rotate_left
       ·
        simp only [Act.put, List.setIfInBounds_toArray, List.set_cons_zero, List.set_cons_succ, zQ, zR]
        rfl
       refine zT (i := 13) (N := some 29) (v := ?_) (a' := ?_) #[true, true, true, true, true, true, true, true, true, true, true, true, true, true, false, true, false, false] rfl rfl (zN HT_.out (by kernel_rfl)) (fun _ _ _ h => h) (Or.inl ⟨by rfl, ?_⟩) ?_ ?_
       rotate_left
       ·
        intro w'
        go_simp
        with_reducible rfl
       rotate_left
       ·
        simp only [Act.put, List.setIfInBounds_toArray, List.set_cons_zero, List.set_cons_succ, zQ, zR]
        rfl
       refine zT (i := 14) (N := some 30) (v := ?_) (a' := ?_) #[true, true, true, true, true, true, true, true, true, true, true, true, true, true, true, true, false, false] rfl rfl (zN HT_.out (by kernel_rfl)) (fun _ _ _ h => h) (Or.inl ⟨by rfl, ?_⟩) ?_ ?_
       rotate_left
       ·
        intro w'
        go_simp
        with_reducible rfl
       rotate_left
       ·
        simp only [Act.put, List.setIfInBounds_toArray, List.set_cons_zero, List.set_cons_succ, zQ, zR]
        rfl
       exact yA (by simp only [putAll, Act.put, List.setIfInBounds_toArray, List.set_cons_zero, List.set_cons_succ]) (hCont (gb1811) _ ⟨hHeld, (by (with_reducible repeat (first | refine zE ?_ _ | refine zI ?_ | refine zD ?_ _)); exact BK1791.out), (by (with_reducible repeat (first | refine zE ?_ _ | refine zI ?_ | refine zD ?_ _)); exact BK1811.out), GW1811.out, GE1811.out, NB1791_1811.out, NB1811_1791.out, (by repeat (first | (with_reducible first | exact HB.out | apply zG | apply zA | apply zF | refine zH ?_ GE1791.out | refine zH ?_ GE1811.out) | exact HB.out))⟩)
     ·
      skip
      refine box_step ?hg (N := 10) ?hd (cs := #[.int .i64 0, .int .i64 0, .int .i64 0]) (t := 28) ?hr ?_; (case hd => rfl); (case hg => rfl); (case hr => first | (go_simp; done) | (go_simp; rfl))
      intro gb1811 hg w43 hbox hb
      have n0_ := zC.mk (zK (g := gb1791) (o := .cells #[.int .i64 a0_0, .int .i64 a0_1, .int .i64 a0_2, .int .i64 a0_3, .slice A0_4 l0_4.length c0_4] 30 (0, 0)) (by (with_reducible repeat (first | refine zE ?_ _ | refine zI ?_ | refine zD ?_ _)); exact BK1791.out) hb)
      have n1_ := zC.mk (zL (by repeat (first | (with_reducible first | exact HB.out | apply zG | apply zA | apply zF | refine zH ?_ GE1791.out) | exact HB.out)) hb)
      have n2_ := zC.mk (hbox)
      have n3_ := zC.mk ((by rw [hg]; exact (zM (by repeat (first | (with_reducible first | exact HB.out | apply zG | apply zA | apply zF | refine zH ?_ GE1791.out) | exact HB.out))) : w.heap.size ≤ gb1811))
      have n4_ := zC.mk ((by rw [hg]; exact (zM (by repeat (first | (with_reducible first | exact HB.out | apply zG | apply zA | apply zF | refine zH ?_ GE1791.out) | exact HB.out))) : w.heap.size ≤ gb1811))
      have n5_ := zC.mk ((by rw [hg]; exact Nat.ne_of_lt (zX (by (with_reducible repeat (first | refine zE ?_ _ | refine zI ?_ | refine zD ?_ _)); exact BK1791.out)) : gb1791 ≠ gb1811))
      have n6_ := zC.mk ((by rw [hg]; exact Nat.ne_of_gt (zX (by (with_reducible repeat (first | refine zE ?_ _ | refine zI ?_ | refine zD ?_ _)); exact BK1791.out)) : gb1811 ≠ gb1791))
      clear BK1791
      clear HB
      have BK1791 := n0_
      have HB := n1_
      have BK1811 := n2_
      have GW1811 := n3_
      have GE1811 := n4_
      have NB1791_1811 := n5_
      have NB1811_1791 := n6_
      clear n0_ n1_ n2_ n3_ n4_ n5_ n6_
      clear hb hbox hg
      refine hK.out _ _ ⟨zB BK1791.out 0, zB BK1791.out 1, zB BK1791.out 2, zB BK1791.out 3, zB BK1791.out 4⟩ (fun hHeld => ?_)
      clear hK K
      refine yA (a' := ?_) ?_ ?_
      rotate_left
      ·
       show Act.put _ (some 10) _ = _
       simp only [Act.put, List.setIfInBounds_toArray, List.set_cons_zero, List.set_cons_succ, zQ, zR]
       rfl
      refine one_ (i := 2) (N := some 19) #[true, true, true, false, false, false, false, false, false, false, false, false, false, false, false, true, false, false] rfl rfl (yB HT_.out (by kernel_rfl)) (by decide) (fun K hK => ?_)
      refine yD Try.func92 (by kernel_rfl) rfl #[.int .i64 a1, .int .i64 1, .int .i64 1000] (by rfl) rfl rfl (by (try simp only [List.map_toArray, List.map_cons, List.map_nil]); first | done | rfl) ?_
      with_reducible refine (xG.calls a1 1 1000 true _ A5.out).mono ?_
      rintro e w' ⟨rfl, ⟨nd, rfl⟩⟩
      refine ⟨_, rfl, ?_⟩
      refine hK.out _ _ ⟨zB BK1791.out 0, zB BK1791.out 1, zB BK1791.out 2, zB BK1791.out 3, zB BK1791.out 4⟩ (fun hHeld => ?_)
      clear hK K
      refine yA (a' := ?_) ?_ ?_
      rotate_left
      ·
       show Act.put _ (some 19) _ = _
       simp only [Act.put, List.setIfInBounds_toArray, List.set_cons_zero, List.set_cons_succ, zQ, zR]
       rfl
      refine zT (i := 3) (N := some 20) (v := ?_) (a' := ?_) #[true, true, true, true, false, false, false, false, false, false, false, false, false, false, false, true, false, false] rfl rfl (zN HT_.out (by kernel_rfl)) (fun _ _ _ h => h) (Or.inl ⟨by rfl, ?_⟩) ?_ ?_
      rotate_left
      ·
       intro w'
       go_simp
       with_reducible rfl
      rotate_left
      ·
       simp only [Act.put, List.setIfInBounds_toArray, List.set_cons_zero, List.set_cons_succ, zQ, zR]
       rfl
      refine zT (i := 4) (N := some 21) (v := ?_) (a' := ?_) #[true, true, true, true, true, false, false, false, false, false, false, false, false, false, false, true, false, false] rfl rfl (zN HT_.out (by kernel_rfl)) (fun _ _ _ h => h) (Or.inl ⟨by rfl, ?_⟩) ?_ ?_
      rotate_left
      ·
       intro w'
       go_simp
       with_reducible rfl
      rotate_left
      ·
       simp only [Act.put, List.setIfInBounds_toArray, List.set_cons_zero, List.set_cons_succ, zQ, zR]
       rfl
      refine one_ (i := 5) (N := some 22) #[true, true, true, true, true, true, false, false, false, false, false, false, false, false, false, true, false, false] rfl rfl (yB HT_.out (by kernel_rfl)) (by decide) (fun K hK => ?_)
      refine yD Try.func92 (by kernel_rfl) rfl #[.int .i64 a2, .int .i64 1, .int .i64 1000] (by rfl) rfl rfl (by (try simp only [List.map_toArray, List.map_cons, List.map_nil]); first | done | rfl) ?_
      with_reducible refine (xG.calls a2 1 1000 false _ A7.out).mono ?_
      rintro e w' ⟨rfl, ⟨nd, rfl⟩⟩
      refine ⟨_, rfl, ?_⟩
      refine hK.out _ _ ⟨zB BK1791.out 0, zB BK1791.out 1, zB BK1791.out 2, zB BK1791.out 3, zB BK1791.out 4⟩ (fun hHeld => ?_)
      clear hK K
      refine yA (a' := ?_) ?_ ?_
      rotate_left
      ·
       show Act.put _ (some 22) _ = _
       simp only [Act.put, List.setIfInBounds_toArray, List.set_cons_zero, List.set_cons_succ, zQ, zR]
       rfl
      refine zT (i := 6) (N := some 23) (v := ?_) (a' := ?_) #[true, true, true, true, true, true, true, false, false, false, false, false, false, false, false, true, false, false] rfl rfl (zN HT_.out (by kernel_rfl)) (fun _ _ _ h => h) (Or.inl ⟨by rfl, ?_⟩) ?_ ?_
      rotate_left
      ·
       intro w'
       go_simp
       with_reducible rfl
      rotate_left
      ·
       simp only [Act.put, List.setIfInBounds_toArray, List.set_cons_zero, List.set_cons_succ, zQ, zR]
       rfl
      refine zT (i := 7) (N := some 24) (v := ?_) (a' := ?_) #[true, true, true, true, true, true, true, true, false, false, false, false, false, false, false, true, false, false] rfl rfl (zN HT_.out (by kernel_rfl)) (fun _ _ _ h => h) (Or.inl ⟨by rfl, ?_⟩) ?_ ?_
      rotate_left
      ·
       intro w'
       go_simp
       with_reducible rfl
      rotate_left
      ·
       simp only [Act.put, List.setIfInBounds_toArray, List.set_cons_zero, List.set_cons_succ, zQ, zR]
       rfl
      refine zT (i := 8) (N := some 25) (v := undef) (a' := ?_) #[true, true, true, true, true, true, true, true, true, false, false, false, false, false, false, true, false, false] rfl rfl (zN HT_.out (by kernel_rfl)) (fun _ _ _ h => h) (Or.inr ⟨by rfl, rfl⟩) ?_ ?_
      rotate_left
      ·
       simp only [Act.put, List.setIfInBounds_toArray, List.set_cons_zero, List.set_cons_succ, zQ, zR]
       rfl
      refine zT (i := 9) (N := some 26) (v := undef) (a' := ?_) #[true, true, true, true, true, true, true, true, true, true, false, false, false, false, false, true, false, false] rfl rfl (zN HT_.out (by kernel_rfl)) (fun _ _ _ h => h) (Or.inr ⟨by rfl, rfl⟩) ?_ ?_
      rotate_left
      ·
       simp only [Act.put, List.setIfInBounds_toArray, List.set_cons_zero, List.set_cons_succ, zQ, zR]
       rfl
      refine zT (i := 10) (N := some 27) (v := ?_) (a' := ?_) #[true, true, true, true, true, true, true, true, true, true, true, false, false, false, false, true, false, false] rfl rfl (zN HT_.out (by kernel_rfl)) (fun _ _ _ h => h) (Or.inl ⟨by rfl, ?_⟩) ?_ ?_
      rotate_left
      ·
       intro w'
       go_simp
       with_reducible rfl
      rotate_left
      ·
       simp only [Act.put, List.setIfInBounds_toArray, List.set_cons_zero, List.set_cons_succ, zQ, zR]
       rfl
      refine one_ (i := 11) (N := some 28) #[true, true, true, true, true, true, true, true, true, true, true, true, false, false, false, true, false, false] rfl rfl (yB HT_.out (by kernel_rfl)) (by decide) (fun K hK => ?_)
      refine yD Try.func105 (by kernel_rfl) rfl #[.agg #[.int .i64 a0_0, .int .i64 a0_1, .int .i64 a0_2, .int .i64 a0_3, .slice A0_4 l0_4.length c0_4], .bool false] (by rfl) rfl rfl (by (try simp only [List.map_toArray, List.map_cons, List.map_nil]); first | done | rfl) ?_
      with_reducible refine (yQ.calls k a0_0 a0_1 a0_2 a0_3 _ _ l0_4 false t1807 t1808 t1809 t1810 _ ?side1 ?side2 A39.out).mono ?_
      (case side1 => repeat (first | exact (Kd.C_below HR0_4.out (by repeat (first | (with_reducible first | exact HB.out | apply zG | apply zA | apply zF | refine zH ?_ GE1791.out | refine zH ?_ GE1811.out) | exact HB.out))) | (with_reducible refine Kd.C_alloc ?_ _) | (with_reducible refine Kd.C_drewN ?_ _) | (with_reducible refine Kd.C_drew ?_)))
      (case side2 => exact HC0_4.out)
      rintro e w44 ⟨rfl, hb⟩
      refine ⟨_, rfl, ?_⟩
      have n0_ := zC.mk (zK (g := gb1791) (o := .cells #[.int .i64 a0_0, .int .i64 a0_1, .int .i64 a0_2, .int .i64 a0_3, .slice A0_4 l0_4.length c0_4] 30 (0, 0)) (by (with_reducible repeat (first | refine zE ?_ _ | refine zI ?_ | refine zD ?_ _)); exact BK1791.out) hb)
      have n1_ := zC.mk (zK (g := gb1811) (o := .cells #[.int .i64 0, .int .i64 0, .int .i64 0] 28 (0, 0)) (by (with_reducible repeat (first | refine zE ?_ _ | refine zI ?_ | refine zD ?_ _)); exact BK1811.out) hb)
      have n2_ := zC.mk (zL (by repeat (first | (with_reducible first | exact HB.out | apply zG | apply zA | apply zF | refine zH ?_ GE1791.out | refine zH ?_ GE1811.out) | exact HB.out)) hb)
      clear BK1791
      clear BK1811
      clear HB
      have BK1791 := n0_
      have BK1811 := n1_
      have HB := n2_
      clear n0_ n1_ n2_
      (try clear hb)
      refine hK.out _ _ ⟨zB BK1791.out 0, zB BK1791.out 1, zB BK1791.out 2, zB BK1791.out 3, zB BK1791.out 4⟩ (fun hHeld => ?_)
      clear hK K
      refine yA (a' := ?_) ?_ ?_
      rotate_left
      ·
       show Act.put _ (some 28) _ = _
       simp only [Act.put, List.setIfInBounds_toArray, List.set_cons_zero, List.set_cons_succ, zQ, zR]
       rfl
      refine zT (i := 12) (N := some 16) (v := ?_) (a' := ?_) #[true, true, true, true, true, true, true, true, true, true, true, true, true, false, false, true, false, false] rfl rfl (zN HT_.out (by kernel_rfl)) (fun _ _ _ h => h) (Or.inl ⟨by rfl, ?_⟩) ?_ ?_
      rotate_left
      ·
       intro w'
       go_simp
       with_reducible rfl
      rotate_left
      ·
       simp only [Act.put, List.setIfInBounds_toArray, List.set_cons_zero, List.set_cons_succ, zQ, zR]
       rfl
      refine zT (i := 13) (N := some 29) (v := ?_) (a' := ?_) #[true, true, true, true, true, true, true, true, true, true, true, true, true, true, false, true, false, false] rfl rfl (zN HT_.out (by kernel_rfl)) (fun _ _ _ h => h) (Or.inl ⟨by rfl, ?_⟩) ?_ ?_
      rotate_left
      ·
       intro w'
       go_simp
       with_reducible rfl
      rotate_left
      ·
       simp only [Act.put, List.setIfInBounds_toArray, List.set_cons_zero, List.set_cons_succ, zQ, zR]
       rfl
      refine zT (i := 14) (N := some 30) (v := ?_) (a' := ?_) #[true, true, true, true, true, true, true, true, true, true, true, true, true, true, true, true, false, false] rfl rfl (zN HT_.out (by kernel_rfl)) (fun _ _ _ h => h) (Or.inl ⟨by rfl, ?_⟩) ?_ ?_
      rotate_left
      ·
       intro w'
       go_simp
       with_reducible rfl
      rotate_left
      ·
       simp only [Act.put, List.setIfInBounds_toArray, List.set_cons_zero, List.set_cons_succ, zQ, zR]
       rfl
      exact yA (by simp only [putAll, Act.put, List.setIfInBounds_toArray, List.set_cons_zero, List.set_cons_succ]) (hCont (gb1811) _ ⟨hHeld, (by (with_reducible repeat (first | refine zE ?_ _ | refine zI ?_ | refine zD ?_ _)); exact BK1791.out), (by (with_reducible repeat (first | refine zE ?_ _ | refine zI ?_ | refine zD ?_ _)); exact BK1811.out), GW1811.out, GE1811.out, NB1791_1811.out, NB1811_1791.out, (by repeat (first | (with_reducible first | exact HB.out | apply zG | apply zA | apply zF | refine zH ?_ GE1791.out | refine zH ?_ GE1811.out) | exact HB.out))⟩)
    rintro gb1811 w45 ⟨hS_, h0_, h1_, h2_, h3_, h4_, h5_, h6_⟩
    have n0_ : zC (w45.heap[gb1791]? = some (.cells #[.int .i64 a0_0, .int .i64 a0_1, .int .i64 a0_2, .int .i64 a0_3, .slice A0_4 l0_4.length c0_4] 30 (0, 0))) := ⟨h0_⟩
    have n1_ : zC (w45.heap[gb1811]? = some (.cells #[.int .i64 0, .int .i64 0, .int .i64 0] 28 (0, 0))) := ⟨h1_⟩
    have n2_ : zC (w.heap.size ≤ gb1811) := ⟨h2_⟩
    have n3_ : zC (w.heap.size ≤ gb1811) := ⟨h3_⟩
    have n4_ : zC (gb1791 ≠ gb1811) := ⟨h4_⟩
    have n5_ : zC (gb1811 ≠ gb1791) := ⟨h5_⟩
    have n6_ : zC (Below w.heap.size w w45) := ⟨h6_⟩
    clear BK1791
    clear HB
    clear h0_ h1_ h2_ h3_ h4_ h5_ h6_
    have BK1791 := n0_
    have BK1811 := n1_
    have GW1811 := n2_
    have GE1811 := n3_
    have NB1791_1811 := n4_
    have NB1811_1791 := n5_
    have HB := n6_
    clear n0_ n1_ n2_ n3_ n4_ n5_ n6_
    have hHeld : w45.cell? ⟨gb1791, 0, none⟩ = some (.int .i64 a0_0) ∧ w45.cell? ⟨gb1791, 1, none⟩ = some (.int .i64 a0_1) ∧ w45.cell? ⟨gb1791, 2, none⟩ = some (.int .i64 a0_2) ∧ w45.cell? ⟨gb1791, 3, none⟩ = some (.int .i64 a0_3) ∧ w45.cell? ⟨gb1791, 4, none⟩ = some (.slice A0_4 l0_4.length c0_4) := hS_
    refine yA (a' := ?_) ?_ ?_
    rotate_left
    ·
     simp only [putAll, Act.put, List.setIfInBounds_toArray, List.set_cons_zero, List.set_cons_succ]
     rfl
    refine one_ (i := 16) (N := none) #[true, true, true, true, true, true, true, true, true, true, true, true, true, true, true, true, true, false] rfl rfl (yB HT_.out (by kernel_rfl)) (by decide) (fun K hK => ?_)
    have hs46 : w45.cell? ⟨gb1811, 0, none⟩ = some (.int .i64 0) := zB BK1811.out 0
    have hfs46 := zJ BK1811.out 0
    have hns46_0 := NB1791_1811.out
    have hms46_0 := NB1811_1791.out
    have hs47 : w45.cell? ⟨gb1811, 1, none⟩ = some (.int .i64 0) := zB BK1811.out 1
    have hfs47 := zJ BK1811.out 1
    have hns47_0 := NB1791_1811.out
    have hms47_0 := NB1811_1791.out
    have hs48 : w45.cell? ⟨gb1811, 2, none⟩ = some (.int .i64 0) := zB BK1811.out 2
    have hfs48 := zJ BK1811.out 2
    have hns48_0 := NB1791_1811.out
    have hms48_0 := NB1811_1791.out
    refine skip_ (w1 := ?_) (by rfl) rfl ?_ ?_
    rotate_left
    ·
     go_simp
     rfl
    refine hK.out _ _ ⟨((zV (p := ⟨gb1811, _, none⟩) NB1791_1811.out _).trans (((zV (p := ⟨gb1811, _, none⟩) NB1791_1811.out _).trans (((zV (p := ⟨gb1811, _, none⟩) NB1791_1811.out _).trans (hHeld.1)))))), ((zV (p := ⟨gb1811, _, none⟩) NB1791_1811.out _).trans (((zV (p := ⟨gb1811, _, none⟩) NB1791_1811.out _).trans (((zV (p := ⟨gb1811, _, none⟩) NB1791_1811.out _).trans (hHeld.2.1)))))), ((zV (p := ⟨gb1811, _, none⟩) NB1791_1811.out _).trans (((zV (p := ⟨gb1811, _, none⟩) NB1791_1811.out _).trans (((zV (p := ⟨gb1811, _, none⟩) NB1791_1811.out _).trans (hHeld.2.2.1)))))), ((zV (p := ⟨gb1811, _, none⟩) NB1791_1811.out _).trans (((zV (p := ⟨gb1811, _, none⟩) NB1791_1811.out _).trans (((zV (p := ⟨gb1811, _, none⟩) NB1791_1811.out _).trans (hHeld.2.2.2.1)))))), ((zV (p := ⟨gb1811, _, none⟩) NB1791_1811.out _).trans (((zV (p := ⟨gb1811, _, none⟩) NB1791_1811.out _).trans (((zV (p := ⟨gb1811, _, none⟩) NB1791_1811.out _).trans (hHeld.2.2.2.2))))))⟩ (fun hHeld => ?_)
    clear hK K
    refine zT (i := 17) (N := some 11) (v := ?_) (a' := ?_) #[true, true, true, true, true, true, true, true, true, true, true, true, true, true, true, true, true, true] rfl rfl (zN HT_.out (by kernel_rfl)) (fun _ _ _ h => h) (Or.inl ⟨by rfl, ?_⟩) ?_ ?_
    rotate_left
    ·
     intro w'
     go_simp
     with_reducible rfl
    rotate_left
    ·
     simp only [Act.put, List.setIfInBounds_toArray, List.set_cons_zero, List.set_cons_succ, zQ, zR]
     rfl
    refine done_ (done_of HT_.out (by kernel_rfl)) ?_
    try go_wp2
    go_ret2
    exact ⟨by first | rfl | (simp [*, errW_none, errW_some] <;> rfl), by repeat (first | (with_reducible first | exact HB.out | apply zG | apply zA | apply zF | refine zH ?_ GE1791.out | refine zH ?_ GE1811.out) | exact HB.out)⟩
 ·
  replace c6 := Bool.eq_false_iff.mpr c6
  subst c6
  have H1 : ((yQ.f k a0_0 a0_1 a0_2 a0_3 l0_4 false).bind fun bt1812 => (if bt1812.2.2.2 = 0 then (none) else (some (0, bt1812.2.2.2)))) = some (r1, r2) := by rw [if_neg (show ¬ (false = true) by decide)] at H; exact H
  clear H
  have H := H1
  clear H1
  replace H := Option.bind_eq_some_iff.mp H
  obtain ⟨⟨t1812, t1813, t1814, t1815⟩, A490, H⟩ := H
  replace H : (if t1815 = 0 then (none) else (some (0, t1815))) = some (r1, r2) := H
  have A49 := zC.mk A490
  clear A490
  by_cases c50 : t1815 = 0
  ·
   rw [if_pos c50] at H
   exact absurd H (by simp)
  ·
   rw [if_neg c50] at H
   have c50b0 : (t1815 == 0) = false := beq_eq_false_iff_ne.mpr c50
   have c50b1 : (t1815 != 0) = true := bne_iff_ne.mpr c50
   simp only [Option.some.injEq, Prod.mk.injEq] at H
   obtain ⟨rfl, rfl⟩ := H
   go_enter Try.func54, Try.ntmps54
   try go_wp2_with (first | ((with_reducible refine zP (N := 4) rfl ?_); refine zO ?hg (N := 4) ?hd (cs := #[.int .i64 a0_0, .int .i64 a0_1, .int .i64 a0_2, .int .i64 a0_3, .slice A0_4 l0_4.length c0_4]) (t := 30) ?hr ?_; (case hd => rfl); (case hg => rfl); (case hr => first | (go_simp; done) | (go_simp; rfl)); intro gb1791 hg w51 hbox hb; have n0_ := zC.mk (zL (by repeat (first | (with_reducible first | exact HB.out | apply zG | apply zA | apply zF) | exact HB.out)) hb); have n1_ := zC.mk (hbox); have n2_ := zC.mk ((by rw [hg]; exact (zM (by repeat (first | (with_reducible first | exact HB.out | apply zG | apply zA | apply zF) | exact HB.out))) : w.heap.size ≤ gb1791)); have n3_ := n2_; clear HB; have HB := n0_; have BK1791 := n1_; have GW1791 := n2_; have GE1791 := n3_; clear n0_ n1_ n2_ n3_; clear hb hbox hg))
   have n0_ := zC.mk (zI BK1791.out)
   have n1_ := zC.mk (zF HB.out)
   clear BK1791
   clear HB
   have BK1791 := n0_
   have HB := n1_
   clear n0_ n1_
   refine start_ (n := 18) (S := fun w' => w'.cell? ⟨gb1791, 0, none⟩ = some (.int .i64 a0_0) ∧ w'.cell? ⟨gb1791, 1, none⟩ = some (.int .i64 a0_1) ∧ w'.cell? ⟨gb1791, 2, none⟩ = some (.int .i64 a0_2) ∧ w'.cell? ⟨gb1791, 3, none⟩ = some (.int .i64 a0_3) ∧ w'.cell? ⟨gb1791, 4, none⟩ = some (.slice A0_4 l0_4.length c0_4)) (ds := []) #[false, false, false, false, false, false, false, false, false, false, false, false, false, false, false, false, false, false] (by kernel_rfl) rfl rfl ⟨zB BK1791.out 0, zB BK1791.out 1, zB BK1791.out 2, zB BK1791.out 3, zB BK1791.out 4⟩ (fun hHeld => ?_); refine yE yN.tab1 yN.bits1 (fun HT_ HW_ => ?_)
   generalize w51.drew = w52 at BK1791 HB hHeld ⊢
   refine zT (i := 1) (N := some 18) (v := ?_) (a' := ?_) #[false, true, false, false, false, false, false, false, false, false, false, false, false, false, false, false, false, false] rfl rfl (zN HT_.out (by kernel_rfl)) (fun _ _ _ h => h) (Or.inl ⟨by rfl, ?_⟩) ?_ ?_
   rotate_left
   ·
    intro w'
    go_simp
    with_reducible rfl
   rotate_left
   ·
    simp only [Act.put, List.setIfInBounds_toArray, List.set_cons_zero, List.set_cons_succ, zQ, zR]
    rfl
   refine yC (i := 0) (N := some 17) (v := ?_) (a' := ?_) #[true, true, false, false, false, false, false, false, false, false, false, false, false, false, false, false, false, false] rfl rfl (zY HT_.out HW_.out (by kernel_rfl)) (fun _ _ _ h => h) (Or.inl ⟨by rfl, ?_⟩) hHeld ?_ ?_
   rotate_left
   ·
    rintro w' ⟨s0, s1, s2, s3, s4⟩
    go_simp
    with_reducible rfl
   rotate_left
   ·
    simp only [Act.put, List.setIfInBounds_toArray, List.set_cons_zero, List.set_cons_succ, zQ, zR]
    rfl
   refine join_ (σ := Nat) 2 #[true, true, true, true, true, true, true, true, true, true, true, true, true, true, true, true, false, false] (fun s_ => [(19, .bool false), (28, .tuple #[.agg #[.int .i64 t1812, .int .i64 t1813, .int .i64 t1814], .int .i64 t1815]), (10, .pointer (some ⟨s_, 0, none⟩)), (20, .bool false), (21, undef), (22, undef), (23, .bool false), (24, .bool false), (25, undef), (26, undef), (27, .bool false), (16, .tuple #[.agg #[.int .i64 t1812, .int .i64 t1813, .int .i64 t1814], .int .i64 t1815]), (29, .agg #[.int .i64 t1812, .int .i64 t1813, .int .i64 t1814]), (30, .int .i64 t1815)]) (fun s_ w' => (w'.cell? ⟨gb1791, 0, none⟩ = some (.int .i64 a0_0) ∧ w'.cell? ⟨gb1791, 1, none⟩ = some (.int .i64 a0_1) ∧ w'.cell? ⟨gb1791, 2, none⟩ = some (.int .i64 a0_2) ∧ w'.cell? ⟨gb1791, 3, none⟩ = some (.int .i64 a0_3) ∧ w'.cell? ⟨gb1791, 4, none⟩ = some (.slice A0_4 l0_4.length c0_4)) ∧ (w'.heap[gb1791]? = some (.cells #[.int .i64 a0_0, .int .i64 a0_1, .int .i64 a0_2, .int .i64 a0_3, .slice A0_4 l0_4.length c0_4] 30 (0, 0))) ∧ (w'.heap[s_]? = some (.cells #[.int .i64 0, .int .i64 0, .int .i64 0] 28 (0, 0))) ∧ (w.heap.size ≤ s_) ∧ (w.heap.size ≤ s_) ∧ (gb1791 ≠ s_) ∧ (s_ ≠ gb1791) ∧ (Below w.heap.size w w')) ?_ ?_
   rotate_left
   ·
    intro hCont
    refine two_ (i := 2) (j := 15) (Ni := some 19) (Nj := some 10) #[true, true, true, false, false, false, false, false, false, false, false, false, false, false, false, false, false, false] #[true, true, false, false, false, false, false, false, false, false, false, false, false, false, false, true, false, false] rfl rfl rfl rfl (two_of HT_.out (by kernel_rfl)) (by decide) (by decide) (fun K hK => ?_) (fun K hK => ?_)
    ·
     skip
     refine yD Try.func92 (by kernel_rfl) rfl #[.int .i64 a1, .int .i64 1, .int .i64 1000] (by rfl) rfl rfl (by (try simp only [List.map_toArray, List.map_cons, List.map_nil]); first | done | rfl) ?_
     with_reducible refine (xG.calls a1 1 1000 false _ A5.out).mono ?_
     rintro e w' ⟨rfl, ⟨nd, rfl⟩⟩
     refine ⟨_, rfl, ?_⟩
     refine hK.out _ _ ⟨zB BK1791.out 0, zB BK1791.out 1, zB BK1791.out 2, zB BK1791.out 3, zB BK1791.out 4⟩ (fun hHeld => ?_)
     clear hK K
     refine yA (a' := ?_) ?_ ?_
     rotate_left
     ·
      show Act.put _ (some 19) _ = _
      simp only [Act.put, List.setIfInBounds_toArray, List.set_cons_zero, List.set_cons_succ, zQ, zR]
      rfl
     refine zT (i := 3) (N := some 20) (v := ?_) (a' := ?_) #[true, true, true, true, false, false, false, false, false, false, false, false, false, false, false, false, false, false] rfl rfl (zN HT_.out (by kernel_rfl)) (fun _ _ _ h => h) (Or.inl ⟨by rfl, ?_⟩) ?_ ?_
     rotate_left
     ·
      intro w'
      go_simp
      with_reducible rfl
     rotate_left
     ·
      simp only [Act.put, List.setIfInBounds_toArray, List.set_cons_zero, List.set_cons_succ, zQ, zR]
      rfl
     refine zT (i := 4) (N := some 21) (v := undef) (a' := ?_) #[true, true, true, true, true, false, false, false, false, false, false, false, false, false, false, false, false, false] rfl rfl (zN HT_.out (by kernel_rfl)) (fun _ _ _ h => h) (Or.inr ⟨by rfl, rfl⟩) ?_ ?_
     rotate_left
     ·
      simp only [Act.put, List.setIfInBounds_toArray, List.set_cons_zero, List.set_cons_succ, zQ, zR]
      rfl
     refine zT (i := 5) (N := some 22) (v := undef) (a' := ?_) #[true, true, true, true, true, true, false, false, false, false, false, false, false, false, false, false, false, false] rfl rfl (zN HT_.out (by kernel_rfl)) (fun _ _ _ h => h) (Or.inr ⟨by rfl, rfl⟩) ?_ ?_
     rotate_left
     ·
      simp only [Act.put, List.setIfInBounds_toArray, List.set_cons_zero, List.set_cons_succ, zQ, zR]
      rfl
     refine zT (i := 6) (N := some 23) (v := ?_) (a' := ?_) #[true, true, true, true, true, true, true, false, false, false, false, false, false, false, false, false, false, false] rfl rfl (zN HT_.out (by kernel_rfl)) (fun _ _ _ h => h) (Or.inl ⟨by rfl, ?_⟩) ?_ ?_
     rotate_left
     ·
      intro w'
      go_simp
      with_reducible rfl
     rotate_left
     ·
      simp only [Act.put, List.setIfInBounds_toArray, List.set_cons_zero, List.set_cons_succ, zQ, zR]
      rfl
     refine zT (i := 7) (N := some 24) (v := ?_) (a' := ?_) #[true, true, true, true, true, true, true, true, false, false, false, false, false, false, false, false, false, false] rfl rfl (zN HT_.out (by kernel_rfl)) (fun _ _ _ h => h) (Or.inl ⟨by rfl, ?_⟩) ?_ ?_
     rotate_left
     ·
      intro w'
      go_simp
      with_reducible rfl
     rotate_left
     ·
      simp only [Act.put, List.setIfInBounds_toArray, List.set_cons_zero, List.set_cons_succ, zQ, zR]
      rfl
     refine zT (i := 8) (N := some 25) (v := undef) (a' := ?_) #[true, true, true, true, true, true, true, true, true, false, false, false, false, false, false, false, false, false] rfl rfl (zN HT_.out (by kernel_rfl)) (fun _ _ _ h => h) (Or.inr ⟨by rfl, rfl⟩) ?_ ?_
     rotate_left
     ·
      simp only [Act.put, List.setIfInBounds_toArray, List.set_cons_zero, List.set_cons_succ, zQ, zR]
      rfl
     refine zT (i := 9) (N := some 26) (v := undef) (a' := ?_) #[true, true, true, true, true, true, true, true, true, true, false, false, false, false, false, false, false, false] rfl rfl (zN HT_.out (by kernel_rfl)) (fun _ _ _ h => h) (Or.inr ⟨by rfl, rfl⟩) ?_ ?_
     rotate_left
     ·
      simp only [Act.put, List.setIfInBounds_toArray, List.set_cons_zero, List.set_cons_succ, zQ, zR]
      rfl
     refine zT (i := 10) (N := some 27) (v := ?_) (a' := ?_) #[true, true, true, true, true, true, true, true, true, true, true, false, false, false, false, false, false, false] rfl rfl (zN HT_.out (by kernel_rfl)) (fun _ _ _ h => h) (Or.inl ⟨by rfl, ?_⟩) ?_ ?_
     rotate_left
     ·
      intro w'
      go_simp
      with_reducible rfl
     rotate_left
     ·
      simp only [Act.put, List.setIfInBounds_toArray, List.set_cons_zero, List.set_cons_succ, zQ, zR]
      rfl
     refine two_ (i := 11) (j := 15) (Ni := some 28) (Nj := some 10) #[true, true, true, true, true, true, true, true, true, true, true, true, false, false, false, false, false, false] #[true, true, true, true, true, true, true, true, true, true, true, false, false, false, false, true, false, false] rfl rfl rfl rfl (two_of HT_.out (by kernel_rfl)) (by decide) (by decide) (fun K hK => ?_) (fun K hK => ?_)
     ·
      skip
      refine yD Try.func105 (by kernel_rfl) rfl #[.agg #[.int .i64 a0_0, .int .i64 a0_1, .int .i64 a0_2, .int .i64 a0_3, .slice A0_4 l0_4.length c0_4], .bool false] (by rfl) rfl rfl (by (try simp only [List.map_toArray, List.map_cons, List.map_nil]); first | done | rfl) ?_
      with_reducible refine (yQ.calls k a0_0 a0_1 a0_2 a0_3 _ _ l0_4 false t1812 t1813 t1814 t1815 _ ?side1 ?side2 A49.out).mono ?_
      (case side1 => repeat (first | exact (Kd.C_below HR0_4.out (by repeat (first | (with_reducible first | exact HB.out | apply zG | apply zA | apply zF | refine zH ?_ GE1791.out) | exact HB.out))) | (with_reducible refine Kd.C_alloc ?_ _) | (with_reducible refine Kd.C_drewN ?_ _) | (with_reducible refine Kd.C_drew ?_)))
      (case side2 => exact HC0_4.out)
      rintro e w53 ⟨rfl, hb⟩
      refine ⟨_, rfl, ?_⟩
      have n0_ := zC.mk (zK (g := gb1791) (o := .cells #[.int .i64 a0_0, .int .i64 a0_1, .int .i64 a0_2, .int .i64 a0_3, .slice A0_4 l0_4.length c0_4] 30 (0, 0)) (by (with_reducible repeat (first | refine zE ?_ _ | refine zI ?_ | refine zD ?_ _)); exact BK1791.out) hb)
      have n1_ := zC.mk (zL (by repeat (first | (with_reducible first | exact HB.out | apply zG | apply zA | apply zF | refine zH ?_ GE1791.out) | exact HB.out)) hb)
      clear BK1791
      clear HB
      have BK1791 := n0_
      have HB := n1_
      clear n0_ n1_
      (try clear hb)
      refine hK.out _ _ ⟨zB BK1791.out 0, zB BK1791.out 1, zB BK1791.out 2, zB BK1791.out 3, zB BK1791.out 4⟩ (fun hHeld => ?_)
      clear hK K
      refine yA (a' := ?_) ?_ ?_
      rotate_left
      ·
       show Act.put _ (some 28) _ = _
       simp only [Act.put, List.setIfInBounds_toArray, List.set_cons_zero, List.set_cons_succ, zQ, zR]
       rfl
      refine zT (i := 12) (N := some 16) (v := ?_) (a' := ?_) #[true, true, true, true, true, true, true, true, true, true, true, true, true, false, false, false, false, false] rfl rfl (zN HT_.out (by kernel_rfl)) (fun _ _ _ h => h) (Or.inl ⟨by rfl, ?_⟩) ?_ ?_
      rotate_left
      ·
       intro w'
       go_simp
       with_reducible rfl
      rotate_left
      ·
       simp only [Act.put, List.setIfInBounds_toArray, List.set_cons_zero, List.set_cons_succ, zQ, zR]
       rfl
      refine zT (i := 13) (N := some 29) (v := ?_) (a' := ?_) #[true, true, true, true, true, true, true, true, true, true, true, true, true, true, false, false, false, false] rfl rfl (zN HT_.out (by kernel_rfl)) (fun _ _ _ h => h) (Or.inl ⟨by rfl, ?_⟩) ?_ ?_
      rotate_left
      ·
       intro w'
       go_simp
       with_reducible rfl
      rotate_left
      ·
       simp only [Act.put, List.setIfInBounds_toArray, List.set_cons_zero, List.set_cons_succ, zQ, zR]
       rfl
      refine zT (i := 14) (N := some 30) (v := ?_) (a' := ?_) #[true, true, true, true, true, true, true, true, true, true, true, true, true, true, true, false, false, false] rfl rfl (zN HT_.out (by kernel_rfl)) (fun _ _ _ h => h) (Or.inl ⟨by rfl, ?_⟩) ?_ ?_
      rotate_left
      ·
       intro w'
       go_simp
       with_reducible rfl
      rotate_left
      ·
       simp only [Act.put, List.setIfInBounds_toArray, List.set_cons_zero, List.set_cons_succ, zQ, zR]
       rfl
      refine one_ (i := 15) (N := some 10) #[true, true, true, true, true, true, true, true, true, true, true, true, true, true, true, true, false, false] rfl rfl (yB HT_.out (by kernel_rfl)) (by decide) (fun K hK => ?_)
      refine box_step ?hg (N := 10) ?hd (cs := #[.int .i64 0, .int .i64 0, .int .i64 0]) (t := 28) ?hr ?_; (case hd => rfl); (case hg => rfl); (case hr => first | (go_simp; done) | (go_simp; rfl))
      intro gb1816 hg w54 hbox hb
      have n0_ := zC.mk (zK (g := gb1791) (o := .cells #[.int .i64 a0_0, .int .i64 a0_1, .int .i64 a0_2, .int .i64 a0_3, .slice A0_4 l0_4.length c0_4] 30 (0, 0)) (by (with_reducible repeat (first | refine zE ?_ _ | refine zI ?_ | refine zD ?_ _)); exact BK1791.out) hb)
      have n1_ := zC.mk (zL (by repeat (first | (with_reducible first | exact HB.out | apply zG | apply zA | apply zF | refine zH ?_ GE1791.out) | exact HB.out)) hb)
      have n2_ := zC.mk (hbox)
      have n3_ := zC.mk ((by rw [hg]; exact (zM (by repeat (first | (with_reducible first | exact HB.out | apply zG | apply zA | apply zF | refine zH ?_ GE1791.out) | exact HB.out))) : w.heap.size ≤ gb1816))
      have n4_ := zC.mk ((by rw [hg]; exact (zM (by repeat (first | (with_reducible first | exact HB.out | apply zG | apply zA | apply zF | refine zH ?_ GE1791.out) | exact HB.out))) : w.heap.size ≤ gb1816))
      have n5_ := zC.mk ((by rw [hg]; exact Nat.ne_of_lt (zX (by (with_reducible repeat (first | refine zE ?_ _ | refine zI ?_ | refine zD ?_ _)); exact BK1791.out)) : gb1791 ≠ gb1816))
      have n6_ := zC.mk ((by rw [hg]; exact Nat.ne_of_gt (zX (by (with_reducible repeat (first | refine zE ?_ _ | refine zI ?_ | refine zD ?_ _)); exact BK1791.out)) : gb1816 ≠ gb1791))
      clear BK1791
      clear HB
      have BK1791 := n0_
      have HB := n1_
      have BK1816 := n2_
      have GW1816 := n3_
      have GE1816 := n4_
      have NB1791_1816 := n5_
      have NB1816_1791 := n6_
      clear n0_ n1_ n2_ n3_ n4_ n5_ n6_
      clear hb hbox hg
      refine hK.out _ _ ⟨zB BK1791.out 0, zB BK1791.out 1, zB BK1791.out 2, zB BK1791.out 3, zB BK1791.out 4⟩ (fun hHeld => ?_)
      clear hK K
      refine yA (a' := ?_) ?_ ?_
      rotate_left
      ·
       show Act.put _ (some 10) _ = _
       simp only [Act.put, List.setIfInBounds_toArray, List.set_cons_zero, List.set_cons_succ, zQ, zR]
       rfl
      exact yA (by simp only [putAll, Act.put, List.setIfInBounds_toArray, List.set_cons_zero, List.set_cons_succ]) (hCont (gb1816) _ ⟨hHeld, (by (with_reducible repeat (first | refine zE ?_ _ | refine zI ?_ | refine zD ?_ _)); exact BK1791.out), (by (with_reducible repeat (first | refine zE ?_ _ | refine zI ?_ | refine zD ?_ _)); exact BK1816.out), GW1816.out, GE1816.out, NB1791_1816.out, NB1816_1791.out, (by repeat (first | (with_reducible first | exact HB.out | apply zG | apply zA | apply zF | refine zH ?_ GE1791.out | refine zH ?_ GE1816.out) | exact HB.out))⟩)
     ·
      skip
      refine box_step ?hg (N := 10) ?hd (cs := #[.int .i64 0, .int .i64 0, .int .i64 0]) (t := 28) ?hr ?_; (case hd => rfl); (case hg => rfl); (case hr => first | (go_simp; done) | (go_simp; rfl))
      intro gb1816 hg w53 hbox hb
      have n0_ := zC.mk (zK (g := gb1791) (o := .cells #[.int .i64 a0_0, .int .i64 a0_1, .int .i64 a0_2, .int .i64 a0_3, .slice A0_4 l0_4.length c0_4] 30 (0, 0)) (by (with_reducible repeat (first | refine zE ?_ _ | refine zI ?_ | refine zD ?_ _)); exact BK1791.out) hb)
      have n1_ := zC.mk (zL (by repeat (first | (with_reducible first | exact HB.out | apply zG | apply zA | apply zF | refine zH ?_ GE1791.out) | exact HB.out)) hb)
      have n2_ := zC.mk (hbox)
      have n3_ := zC.mk ((by rw [hg]; exact (zM (by repeat (first | (with_reducible first | exact HB.out | apply zG | apply zA | apply zF | refine zH ?_ GE1791.out) | exact HB.out))) : w.heap.size ≤ gb1816))
      have n4_ := zC.mk ((by rw [hg]; exact (zM (by repeat (first | (with_reducible first | exact HB.out | apply zG | apply zA | apply zF | refine zH ?_ GE1791.out) | exact HB.out))) : w.heap.size ≤ gb1816))
      have n5_ := zC.mk ((by rw [hg]; exact Nat.ne_of_lt (zX (by (with_reducible repeat (first | refine zE ?_ _ | refine zI ?_ | refine zD ?_ _)); exact BK1791.out)) : gb1791 ≠ gb1816))
      have n6_ := zC.mk ((by rw [hg]; exact Nat.ne_of_gt (zX (by (with_reducible repeat (first | refine zE ?_ _ | refine zI ?_ | refine zD ?_ _)); exact BK1791.out)) : gb1816 ≠ gb1791))
      clear BK1791
      clear HB
      have BK1791 := n0_
      have HB := n1_
      have BK1816 := n2_
      have GW1816 := n3_
      have GE1816 := n4_
      have NB1791_1816 := n5_
      have NB1816_1791 := n6_
      clear n0_ n1_ n2_ n3_ n4_ n5_ n6_
      clear hb hbox hg
      refine hK.out _ _ ⟨zB BK1791.out 0, zB BK1791.out 1, zB BK1791.out 2, zB BK1791.out 3, zB BK1791.out 4⟩ (fun hHeld => ?_)
      clear hK K
      refine yA (a' := ?_) ?_ ?_
      rotate_left
      ·
       show Act.put _ (some 10) _ = _
       simp only [Act.put, List.setIfInBounds_toArray, List.set_cons_zero, List.set_cons_succ, zQ, zR]
       rfl
      refine one_ (i := 11) (N := some 28) #[true, true, true, true, true, true, true, true, true, true, true, true, false, false, false, true, false, false] rfl rfl (yB HT_.out (by kernel_rfl)) (by decide) (fun K hK => ?_)
      refine yD Try.func105 (by kernel_rfl) rfl #[.agg #[.int .i64 a0_0, .int .i64 a0_1, .int .i64 a0_2, .int .i64 a0_3, .slice A0_4 l0_4.length c0_4], .bool false] (by rfl) rfl rfl (by (try simp only [List.map_toArray, List.map_cons, List.map_nil]); first | done | rfl) ?_
      with_reducible refine (yQ.calls k a0_0 a0_1 a0_2 a0_3 _ _ l0_4 false t1812 t1813 t1814 t1815 _ ?side1 ?side2 A49.out).mono ?_
      (case side1 => repeat (first | exact (Kd.C_below HR0_4.out HB.out) | (with_reducible refine Kd.C_alloc ?_ _) | (with_reducible refine Kd.C_drewN ?_ _) | (with_reducible refine Kd.C_drew ?_)))
      (case side2 => exact HC0_4.out)
      rintro e w54 ⟨rfl, hb⟩
      refine ⟨_, rfl, ?_⟩
      have n0_ := zC.mk (zK (g := gb1791) (o := .cells #[.int .i64 a0_0, .int .i64 a0_1, .int .i64 a0_2, .int .i64 a0_3, .slice A0_4 l0_4.length c0_4] 30 (0, 0)) (by (with_reducible repeat (first | refine zE ?_ _ | refine zI ?_ | refine zD ?_ _)); exact BK1791.out) hb)
      have n1_ := zC.mk (zK (g := gb1816) (o := .cells #[.int .i64 0, .int .i64 0, .int .i64 0] 28 (0, 0)) (by (with_reducible repeat (first | refine zE ?_ _ | refine zI ?_ | refine zD ?_ _)); exact BK1816.out) hb)
      have n2_ := zC.mk (zL (by repeat (first | (with_reducible first | exact HB.out | apply zG | apply zA | apply zF | refine zH ?_ GE1791.out | refine zH ?_ GE1816.out) | exact HB.out)) hb)
      clear BK1791
      clear BK1816
      clear HB
      have BK1791 := n0_
      have BK1816 := n1_
      have HB := n2_
      clear n0_ n1_ n2_
      (try clear hb)
      refine hK.out _ _ ⟨zB BK1791.out 0, zB BK1791.out 1, zB BK1791.out 2, zB BK1791.out 3, zB BK1791.out 4⟩ (fun hHeld => ?_)
      clear hK K
      refine yA (a' := ?_) ?_ ?_
      rotate_left
      ·
       show Act.put _ (some 28) _ = _
       simp only [Act.put, List.setIfInBounds_toArray, List.set_cons_zero, List.set_cons_succ, zQ, zR]
       rfl
      refine zT (i := 12) (N := some 16) (v := ?_) (a' := ?_) #[true, true, true, true, true, true, true, true, true, true, true, true, true, false, false, true, false, false] rfl rfl (zN HT_.out (by kernel_rfl)) (fun _ _ _ h => h) (Or.inl ⟨by rfl, ?_⟩) ?_ ?_
      rotate_left
      ·
       intro w'
       go_simp
       with_reducible rfl
      rotate_left
      ·
       simp only [Act.put, List.setIfInBounds_toArray, List.set_cons_zero, List.set_cons_succ, zQ, zR]
       rfl
      refine zT (i := 13) (N := some 29) (v := ?_) (a' := ?_) #[true, true, true, true, true, true, true, true, true, true, true, true, true, true, false, true, false, false] rfl rfl (zN HT_.out (by kernel_rfl)) (fun _ _ _ h => h) (Or.inl ⟨by rfl, ?_⟩) ?_ ?_
      rotate_left
      ·
       intro w'
       go_simp
       with_reducible rfl
      rotate_left
      ·
       simp only [Act.put, List.setIfInBounds_toArray, List.set_cons_zero, List.set_cons_succ, zQ, zR]
       rfl
      refine zT (i := 14) (N := some 30) (v := ?_) (a' := ?_) #[true, true, true, true, true, true, true, true, true, true, true, true, true, true, true, true, false, false] rfl rfl (zN HT_.out (by kernel_rfl)) (fun _ _ _ h => h) (Or.inl ⟨by rfl, ?_⟩) ?_ ?_
      rotate_left
      ·
       intro w'
       go_simp
       with_reducible rfl
      rotate_left
      ·
       simp only [Act.put, List.setIfInBounds_toArray, List.set_cons_zero, List.set_cons_succ, zQ, zR]
       rfl
      exact yA (by simp only [putAll, Act.put, List.setIfInBounds_toArray, List.set_cons_zero, List.set_cons_succ]) (hCont (gb1816) _ ⟨hHeld, (by (with_reducible repeat (first | refine zE ?_ _ | refine zI ?_ | refine zD ?_ _)); exact BK1791.out), (by (with_reducible repeat (first | refine zE ?_ _ | refine zI ?_ | refine zD ?_ _)); exact BK1816.out), GW1816.out, GE1816.out, NB1791_1816.out, NB1816_1791.out, (by repeat (first | (with_reducible first | exact HB.out | apply zG | apply zA | apply zF | refine zH ?_ GE1791.out | refine zH ?_ GE1816.out) | exact HB.out))⟩)
    ·
     skip
     refine box_step ?hg (N := 10) ?hd (cs := #[.int .i64 0, .int .i64 0, .int .i64 0]) (t := 28) ?hr ?_; (case hd => rfl); (case hg => rfl); (case hr => first | (go_simp; done) | (go_simp; rfl))
     intro gb1816 hg w53 hbox hb
     have n0_ := zC.mk (zK (g := gb1791) (o := .cells #[.int .i64 a0_0, .int .i64 a0_1, .int .i64 a0_2, .int .i64 a0_3, .slice A0_4 l0_4.length c0_4] 30 (0, 0)) (by (with_reducible repeat (first | refine zE ?_ _ | refine zI ?_ | refine zD ?_ _)); exact BK1791.out) hb)
     have n1_ := zC.mk (zL (by repeat (first | (with_reducible first | exact HB.out | apply zG | apply zA | apply zF | refine zH ?_ GE1791.out) | exact HB.out)) hb)
     have n2_ := zC.mk (hbox)
     have n3_ := zC.mk ((by rw [hg]; exact (zM (by repeat (first | (with_reducible first | exact HB.out | apply zG | apply zA | apply zF | refine zH ?_ GE1791.out) | exact HB.out))) : w.heap.size ≤ gb1816))
     have n4_ := zC.mk ((by rw [hg]; exact (zM (by repeat (first | (with_reducible first | exact HB.out | apply zG | apply zA | apply zF | refine zH ?_ GE1791.out) | exact HB.out))) : w.heap.size ≤ gb1816))
     have n5_ := zC.mk ((by rw [hg]; exact Nat.ne_of_lt (zX (by (with_reducible repeat (first | refine zE ?_ _ | refine zI ?_ | refine zD ?_ _)); exact BK1791.out)) : gb1791 ≠ gb1816))
     have n6_ := zC.mk ((by rw [hg]; exact Nat.ne_of_gt (zX (by (with_reducible repeat (first | refine zE ?_ _ | refine zI ?_ | refine zD ?_ _)); exact BK1791.out)) : gb1816 ≠ gb1791))
     clear BK1791
     clear HB
     have BK1791 := n0_
     have HB := n1_
     have BK1816 := n2_
     have GW1816 := n3_
     have GE1816 := n4_
     have NB1791_1816 := n5_
     have NB1816_1791 := n6_
     clear n0_ n1_ n2_ n3_ n4_ n5_ n6_
     clear hb hbox hg
     refine hK.out _ _ ⟨zB BK1791.out 0, zB BK1791.out 1, zB BK1791.out 2, zB BK1791.out 3, zB BK1791.out 4⟩ (fun hHeld => ?_)
     clear hK K
     refine yA (a' := ?_) ?_ ?_
     rotate_left
     ·
      show Act.put _ (some 10) _ = _
      simp only [Act.put, List.setIfInBounds_toArray, List.set_cons_zero, List.set_cons_succ, zQ, zR]
      rfl
     refine one_ (i := 2) (N := some 19) #[true, true, true, false, false, false, false, false, false, false, false, false, false, false, false, true, false, false] rfl rfl (yB HT_.out (by kernel_rfl)) (by decide) (fun K hK => ?_)
     refine yD Try.func92 (by kernel_rfl) rfl #[.int .i64 a1, .int .i64 1, .int .i64 1000] (by rfl) rfl rfl (by (try simp only [List.map_toArray, List.map_cons, List.map_nil]); first | done | rfl) ?_
     with_reducible refine (xG.calls a1 1 1000 false _ A5.out).mono ?_
     rintro e w' ⟨rfl, ⟨nd, rfl⟩⟩
     refine ⟨_, rfl, ?_⟩
     refine hK.out _ _ ⟨zB BK1791.out 0, zB BK1791.out 1, zB BK1791.out 2, zB BK1791.out 3, zB BK1791.out 4⟩ (fun hHeld => ?_)
     clear hK K
     refine yA (a' := ?_) ?_ ?_
     rotate_left
     ·
      show Act.put _ (some 19) _ = _
      simp only [Act.put, List.setIfInBounds_toArray, List.set_cons_zero, List.set_cons_succ, zQ, zR]
      rfl
     refine zT (i := 3) (N := some 20) (v := ?_) (a' := ?_) #[true, true, true, true, false, false, false, false, false, false, false, false, false, false, false, true, false, false] rfl rfl (zN HT_.out (by kernel_rfl)) (fun _ _ _ h => h) (Or.inl ⟨by rfl, ?_⟩) ?_ ?_
     rotate_left
     ·
      intro w'
      go_simp
      with_reducible rfl
     rotate_left
     ·
      simp only [Act.put, List.setIfInBounds_toArray, List.set_cons_zero, List.set_cons_succ, zQ, zR]
      rfl
     refine zT (i := 4) (N := some 21) (v := undef) (a' := ?_) #[true, true, true, true, true, false, false, false, false, false, false, false, false, false, false, true, false, false] rfl rfl (zN HT_.out (by kernel_rfl)) (fun _ _ _ h => h) (Or.inr ⟨by rfl, rfl⟩) ?_ ?_
     rotate_left
     ·
      simp only [Act.put, List.setIfInBounds_toArray, List.set_cons_zero, List.set_cons_succ, zQ, zR]
      rfl
     refine zT (i := 5) (N := some 22) (v := undef) (a' := ?_) #[true, true, true, true, true, true, false, false, false, false, false, false, false, false, false, true, false, false] rfl rfl (zN HT_.out (by kernel_rfl)) (fun _ _ _ h => h) (Or.inr ⟨by rfl, rfl⟩) ?_ ?_
     rotate_left
     ·
      simp only [Act.put, List.setIfInBounds_toArray, List.set_cons_zero, List.set_cons_succ, zQ, zR]
      rfl
     refine zT (i := 6) (N := some 23) (v := ?_) (a' := ?_) #[true, true, true, true, true, true, true, false, false, false, false, false, false, false, false, true, false, false] rfl rfl (zN HT_.out (by kernel_rfl)) (fun _ _ _ h => h) (Or.inl ⟨by rfl, ?_⟩) ?_ ?_
     rotate_left
     ·
      intro w'
      go_simp
      with_reducible rfl
     rotate_left
     ·
      simp only [Act.put, List.setIfInBounds_toArray, List.set_cons_zero, List.set_cons_succ, zQ, zR]
      rfl
     refine zT (i := 7) (N := some 24) (v := ?_) (a' := ?_) #[true, true, true, true, true, true, true, true, false, false, false, false, false, false, false, true, false, false] rfl rfl (zN HT_.out (by kernel_rfl)) (fun _ _ _ h => h) (Or.inl ⟨by rfl, ?_⟩) ?_ ?_
     rotate_left
     ·
      intro w'
      go_simp
      with_reducible rfl
     rotate_left
     ·
      simp only [Act.put, List.setIfInBounds_toArray, List.set_cons_zero, List.set_cons_succ, zQ, zR]
      rfl
     refine zT (i := 8) (N := some 25) (v := undef) (a' := ?_) #[true, true, true, true, true, true, true, true, true, false, false, false, false, false, false, true, false, false] rfl rfl (zN HT_.out (by kernel_rfl)) (fun _ _ _ h => h) (Or.inr ⟨by rfl, rfl⟩) ?_ ?_
     rotate_left
     ·
      simp only [Act.put, List.setIfInBounds_toArray, List.set_cons_zero, List.set_cons_succ, zQ, zR]
      rfl
     refine zT (i := 9) (N := some 26) (v := undef) (a' := ?_) #[true, true, true, true, true, true, true, true, true, true, false, false, false, false, false, true, false, false] rfl rfl (zN HT_.out (by kernel_rfl)) (fun _ _ _ h => h) (Or.inr ⟨by rfl, rfl⟩) ?_ ?_
     rotate_left
     ·
      simp only [Act.put, List.setIfInBounds_toArray, List.set_cons_zero, List.set_cons_succ, zQ, zR]
      rfl
     refine zT (i := 10) (N := some 27) (v := ?_) (a' := ?_) #[true, true, true, true, true, true, true, true, true, true, true, false, false, false, false, true, false, false] rfl rfl (zN HT_.out (by kernel_rfl)) (fun _ _ _ h => h) (Or.inl ⟨by rfl, ?_⟩) ?_ ?_
     rotate_left
     ·
      intro w'
      go_simp
      with_reducible rfl
     rotate_left
     ·
      simp only [Act.put, List.setIfInBounds_toArray, List.set_cons_zero, List.set_cons_succ, zQ, zR]
      rfl
     refine one_ (i := 11) (N := some 28) #[true, true, true, true, true, true, true, true, true, true, true, true, false, false, false, true, false, false] rfl rfl (yB HT_.out (by kernel_rfl)) (by decide) (fun K hK => ?_)
     refine yD Try.func105 (by kernel_rfl) rfl #[.agg #[.int .i64 a0_0, .int .i64 a0_1, .int .i64 a0_2, .int .i64 a0_3, .slice A0_4 l0_4.length c0_4], .bool false] (by rfl) rfl rfl (by (try simp only [List.map_toArray, List.map_cons, List.map_nil]); first | done | rfl) ?_
     with_reducible refine (yQ.calls k a0_0 a0_1 a0_2 a0_3 _ _ l0_4 false t1812 t1813 t1814 t1815 _ ?side1 ?side2 A49.out).mono ?_
     (case side1 => repeat (first | exact (Kd.C_below HR0_4.out (by repeat (first | (with_reducible first | exact HB.out | apply zG | apply zA | apply zF | refine zH ?_ GE1791.out | refine zH ?_ GE1816.out) | exact HB.out))) | (with_reducible refine Kd.C_alloc ?_ _) | (with_reducible refine Kd.C_drewN ?_ _) | (with_reducible refine Kd.C_drew ?_)))
     (case side2 => exact HC0_4.out)
     rintro e w54 ⟨rfl, hb⟩
     refine ⟨_, rfl, ?_⟩
     have n0_ := zC.mk (zK (g := gb1791) (o := .cells #[.int .i64 a0_0, .int .i64 a0_1, .int .i64 a0_2, .int .i64 a0_3, .slice A0_4 l0_4.length c0_4] 30 (0, 0)) (by (with_reducible repeat (first | refine zE ?_ _ | refine zI ?_ | refine zD ?_ _)); exact BK1791.out) hb)
     have n1_ := zC.mk (zK (g := gb1816) (o := .cells #[.int .i64 0, .int .i64 0, .int .i64 0] 28 (0, 0)) (by (with_reducible repeat (first | refine zE ?_ _ | refine zI ?_ | refine zD ?_ _)); exact BK1816.out) hb)
     have n2_ := zC.mk (zL (by repeat (first | (with_reducible first | exact HB.out | apply zG | apply zA | apply zF | refine zH ?_ GE1791.out | refine zH ?_ GE1816.out) | exact HB.out)) hb)
     clear BK1791
     clear BK1816
     clear HB
     have BK1791 := n0_
     have BK1816 := n1_
     have HB := n2_
     clear n0_ n1_ n2_
     (try clear hb)
     refine hK.out _ _ ⟨zB BK1791.out 0, zB BK1791.out 1, zB BK1791.out 2, zB BK1791.out 3, zB BK1791.out 4⟩ (fun hHeld => ?_)
     clear hK K
     refine yA (a' := ?_) ?_ ?_
     rotate_left
     ·
      show Act.put _ (some 28) _ = _
      simp only [Act.put, List.setIfInBounds_toArray, List.set_cons_zero, List.set_cons_succ, zQ, zR]
      rfl
     refine zT (i := 12) (N := some 16) (v := ?_) (a' := ?_) #[true, true, true, true, true, true, true, true, true, true, true, true, true, false, false, true, false, false] rfl rfl (zN HT_.out (by kernel_rfl)) (fun _ _ _ h => h) (Or.inl ⟨by rfl, ?_⟩) ?_ ?_
     rotate_left
     ·
      intro w'
      go_simp
      with_reducible rfl
     rotate_left
     ·
      simp only [Act.put, List.setIfInBounds_toArray, List.set_cons_zero, List.set_cons_succ, zQ, zR]
      rfl
     refine zT (i := 13) (N := some 29) (v := ?_) (a' := ?_) #[true, true, true, true, true, true, true, true, true, true, true, true, true, true, false, true, false, false] rfl rfl (zN HT_.out (by kernel_rfl)) (fun _ _ _ h => h) (Or.inl ⟨by rfl, ?_⟩) ?_ ?_
     rotate_left
     ·
      intro w'
      go_simp
      with_reducible rfl
     rotate_left
     ·
      simp only [Act.put, List.setIfInBounds_toArray, List.set_cons_zero, List.set_cons_succ, zQ, zR]
      rfl
     refine zT (i := 14) (N := some 30) (v := ?_) (a' := ?_) #[true, true, true, true, true, true, true, true, true, true, true, true, true, true, true, true, false, false] rfl rfl (zN HT_.out (by kernel_rfl)) (fun _ _ _ h => h) (Or.inl ⟨by rfl, ?_⟩) ?_ ?_
     rotate_left
     ·
      intro w'
      go_simp
      with_reducible rfl
     rotate_left
     ·
      simp only [Act.put, List.setIfInBounds_toArray, List.set_cons_zero, List.set_cons_succ, zQ, zR]
      rfl
     exact yA (by simp only [putAll, Act.put, List.setIfInBounds_toArray, List.set_cons_zero, List.set_cons_succ]) (hCont (gb1816) _ ⟨hHeld, (by (with_reducible repeat (first | refine zE ?_ _ | refine zI ?_ | refine zD ?_ _)); exact BK1791.out), (by (with_reducible repeat (first | refine zE ?_ _ | refine zI ?_ | refine zD ?_ _)); exact BK1816.out), GW1816.out, GE1816.out, NB1791_1816.out, NB1816_1791.out, (by repeat (first | (with_reducible first | exact HB.out | apply zG | apply zA | apply zF | refine zH ?_ GE1791.out | refine zH ?_ GE1816.out) | exact HB.out))⟩)
   rintro gb1816 w55 ⟨hS_, h0_, h1_, h2_, h3_, h4_, h5_, h6_⟩
   have n0_ : zC (w55.heap[gb1791]? = some (.cells #[.int .i64 a0_0, .int .i64 a0_1, .int .i64 a0_2, .int .i64 a0_3, .slice A0_4 l0_4.length c0_4] 30 (0, 0))) := ⟨h0_⟩
   have n1_ : zC (w55.heap[gb1816]? = some (.cells #[.int .i64 0, .int .i64 0, .int .i64 0] 28 (0, 0))) := ⟨h1_⟩
   have n2_ : zC (w.heap.size ≤ gb1816) := ⟨h2_⟩
   have n3_ : zC (w.heap.size ≤ gb1816) := ⟨h3_⟩
   have n4_ : zC (gb1791 ≠ gb1816) := ⟨h4_⟩
   have n5_ : zC (gb1816 ≠ gb1791) := ⟨h5_⟩
   have n6_ : zC (Below w.heap.size w w55) := ⟨h6_⟩
   clear BK1791
   clear HB
   clear h0_ h1_ h2_ h3_ h4_ h5_ h6_
   have BK1791 := n0_
   have BK1816 := n1_
   have GW1816 := n2_
   have GE1816 := n3_
   have NB1791_1816 := n4_
   have NB1816_1791 := n5_
   have HB := n6_
   clear n0_ n1_ n2_ n3_ n4_ n5_ n6_
   have hHeld : w55.cell? ⟨gb1791, 0, none⟩ = some (.int .i64 a0_0) ∧ w55.cell? ⟨gb1791, 1, none⟩ = some (.int .i64 a0_1) ∧ w55.cell? ⟨gb1791, 2, none⟩ = some (.int .i64 a0_2) ∧ w55.cell? ⟨gb1791, 3, none⟩ = some (.int .i64 a0_3) ∧ w55.cell? ⟨gb1791, 4, none⟩ = some (.slice A0_4 l0_4.length c0_4) := hS_
   refine yA (a' := ?_) ?_ ?_
   rotate_left
   ·
    simp only [putAll, Act.put, List.setIfInBounds_toArray, List.set_cons_zero, List.set_cons_succ]
    rfl
   refine one_ (i := 16) (N := none) #[true, true, true, true, true, true, true, true, true, true, true, true, true, true, true, true, true, false] rfl rfl (yB HT_.out (by kernel_rfl)) (by decide) (fun K hK => ?_)
   have hs56 : w55.cell? ⟨gb1816, 0, none⟩ = some (.int .i64 0) := zB BK1816.out 0
   have hfs56 := zJ BK1816.out 0
   have hns56_0 := NB1791_1816.out
   have hms56_0 := NB1816_1791.out
   have hs57 : w55.cell? ⟨gb1816, 1, none⟩ = some (.int .i64 0) := zB BK1816.out 1
   have hfs57 := zJ BK1816.out 1
   have hns57_0 := NB1791_1816.out
   have hms57_0 := NB1816_1791.out
   have hs58 : w55.cell? ⟨gb1816, 2, none⟩ = some (.int .i64 0) := zB BK1816.out 2
   have hfs58 := zJ BK1816.out 2
   have hns58_0 := NB1791_1816.out
   have hms58_0 := NB1816_1791.out
   refine skip_ (w1 := ?_) (by rfl) rfl ?_ ?_
   rotate_left
   ·
    go_simp
    rfl
   refine hK.out _ _ ⟨((zV (p := ⟨gb1816, _, none⟩) NB1791_1816.out _).trans (((zV (p := ⟨gb1816, _, none⟩) NB1791_1816.out _).trans (((zV (p := ⟨gb1816, _, none⟩) NB1791_1816.out _).trans (hHeld.1)))))), ((zV (p := ⟨gb1816, _, none⟩) NB1791_1816.out _).trans (((zV (p := ⟨gb1816, _, none⟩) NB1791_1816.out _).trans (((zV (p := ⟨gb1816, _, none⟩) NB1791_1816.out _).trans (hHeld.2.1)))))), ((zV (p := ⟨gb1816, _, none⟩) NB1791_1816.out _).trans (((zV (p := ⟨gb1816, _, none⟩) NB1791_1816.out _).trans (((zV (p := ⟨gb1816, _, none⟩) NB1791_1816.out _).trans (hHeld.2.2.1)))))), ((zV (p := ⟨gb1816, _, none⟩) NB1791_1816.out _).trans (((zV (p := ⟨gb1816, _, none⟩) NB1791_1816.out _).trans (((zV (p := ⟨gb1816, _, none⟩) NB1791_1816.out _).trans (hHeld.2.2.2.1)))))), ((zV (p := ⟨gb1816, _, none⟩) NB1791_1816.out _).trans (((zV (p := ⟨gb1816, _, none⟩) NB1791_1816.out _).trans (((zV (p := ⟨gb1816, _, none⟩) NB1791_1816.out _).trans (hHeld.2.2.2.2))))))⟩ (fun hHeld => ?_)
   clear hK K
   refine zT (i := 17) (N := some 11) (v := ?_) (a' := ?_) #[true, true, true, true, true, true, true, true, true, true, true, true, true, true, true, true, true, true] rfl rfl (zN HT_.out (by kernel_rfl)) (fun _ _ _ h => h) (Or.inl ⟨by rfl, ?_⟩) ?_ ?_
   rotate_left
   ·
    intro w'
    go_simp
    with_reducible rfl
   rotate_left
   ·
    simp only [Act.put, List.setIfInBounds_toArray, List.set_cons_zero, List.set_cons_succ, zQ, zR]
    rfl
   refine done_ (done_of HT_.out (by kernel_rfl)) ?_
   try go_wp2
   go_ret2
   exact ⟨by first | rfl | (simp [*, errW_none, errW_some] <;> rfl), by repeat (first | (with_reducible first | exact HB.out | apply zG | apply zA | apply zF | refine zH ?_ GE1791.out | refine zH ?_ GE1816.out) | exact HB.out)⟩
theorem xM.calls (a0 : Int) (a1 : Int) (a2 : Int) (r : Bool) (w : World) (h : xM.f a0 a1 a2 = some r) :
  Calls Try.prog 114 #[.int .i64 a0, .int .i64 a1, .int .i64 a2] w fun e w' => e = .returned (.bool r) ∧ Drawn0 w w' := by
 have H : (if a0 ≥ a1 then (some (decide (a0 ≤ a2))) else (some false)) = some r := h
 clear h
 by_cases c4 : a0 ≥ a1
 ·
  rw [if_pos c4] at H
  have c4b0 : decide (a1 ≤ a0) = true := decide_eq_true c4
  clear c4
  obtain rfl := Option.some.inj H
  go_enter Try.func114, Try.ntmps114
  go_wp2
  go_ret
  exact ⟨by first | rfl | (simp; done) | (simp [*]; done), by repeat (first | exact Drawn0.refl _ | apply Drawn0.step)⟩
 ·
  rw [if_neg c4] at H
  have c4b0 : decide (a1 ≤ a0) = false := decide_eq_false c4
  clear c4
  obtain rfl := Option.some.inj H
  go_enter Try.func114, Try.ntmps114
  go_wp2
  go_ret
  exact ⟨by first | rfl | (simp; done) | (simp [*]; done), by repeat (first | exact Drawn0.refl _ | apply Drawn0.step)⟩
theorem wA.calls (a0 : Int) (r : Bool) (w : World) (h : wA.f a0 = some r) :
  Calls Try.prog 109 #[.int .i64 a0] w fun e w' => e = .returned (.bool r) ∧ Drawn0 w w' := by
 have H : ((xM.f a0 1 1000).bind fun t1640 => (some t1640)) = some r := h
 clear h
 replace H := Option.bind_eq_some_iff.mp H
 obtain ⟨t1640, A20, H⟩ := H
 replace H : (some t1640) = some r := H
 have A2 := zC.mk A20
 clear A20
 obtain rfl := Option.some.inj H
 go_enter Try.func109, Try.ntmps109
 go_wp2_with (first | ((with_reducible refine zS (f := 114) rfl ?_); refine zZ (some 4) rfl rfl Try.func114 (by kernel_rfl) rfl #[.int .i64 a0, .int .i64 1, .int .i64 1000] rfl (by (try simp only [List.map_toArray, List.map_cons, List.map_nil]); first | done | rfl) ?_; (with_reducible refine (xM.calls a0 1 1000 t1640 _ A2.out).mono ?_); rintro e w' ⟨rfl, ⟨nd, rfl⟩⟩; refine ⟨_, rfl, ?_⟩))
 go_ret
 exact ⟨by first | rfl | (simp; done) | (simp [*]; done), by repeat (first | exact Drawn0.refl _ | apply Drawn0.step)⟩
set_option maxHeartbeats 2000000 in
theorem IndexFunc_i64 (p : Int → Bool) (g : Nat) (lb : Array Value) (eg : ∀ args w, (callFunc g args).run Try.prog w = .ok (.enter g args) w) (A : Option Addr) (c : Nat) (xs : List Int) (w : World)
  (hp : ∀ W x, Below w.heap.size w W → Calls Try.prog g (#[.int .i64 x] ++ lb) W fun e W' => e = .returned (.bool (p x)) ∧ Below W.heap.size W W')
  (hr : Kd.C (Kd.int .i64) w A xs.length xs) :
  Calls Try.prog 159 #[.slice A xs.length c, .func (.func g) #[] lb] w fun e w' => e = .returned (.int .i64 (fidx p xs)) ∧ Below w.heap.size w w' := by
 have HR := zC.mk hr
 have HP := zC.mk hp
 have hm : xs.length ≤ 9223372036854775807 := hr.2.1
 clear hr hp
 go_enter Try.func159, Try.ntmps159
 go_wp2
 go_loopg [5, 8] xs.length (fun gg _ s8 wr => ∃ kk : Nat, kk ≤ xs.length ∧ xs.length - kk ≤ gg ∧ s8 = .int .i64 kk ∧ zC (∀ j, j < kk → p (xs.getD j 0) = false) ∧ Below w.heap.size w wr)
 case atStart => exact ⟨0, Nat.zero_le _, by omega, rfl, ⟨fun j hj => absurd hj (Nat.not_lt_zero _)⟩, Below.refl _ _⟩
 case round =>
  obtain ⟨kk, hkk, hg, rfl, AF, hB⟩ := hrel
  have HB := zC.mk hB
  clear hB
  by_cases hlt : kk < xs.length
  ·
   have hltz : (kk : Int) < (xs.length : Int) := by omega
   obtain ⟨ad, e, hx⟩ := Kd.at_int HR.out (kk : Int) (by omega) hltz
   cases e
   replace hx := (HB.out.cell (World.block_lt_of_cell? w _ hx)).trans hx
   simp only [Int.toNat_natCast] at hx
   obtain ⟨y, hy⟩ : ∃ y, rd xs (kk : Int) = y := ⟨_, rfl⟩
   rw [hy] at hx
   have HY := zC.mk hy
   clear hy
   cases hq : p y with
   | true =>
    have HQ := zC.mk hq
    clear hq
    go_wp2_with fail
    refine (HP.out _ y HB.out).mono ?_
    rintro e w' ⟨rfl, hb2⟩
    rw [HQ.out]
    have HB2 := zC.mk (HB.out.trans (hb2.mono HB.out.size))
    clear hb2
    go_wp2
    go_ret
    exact ⟨by rw [fidx_hit p xs 0 kk hlt AF.out (by have h_ := HY.out; unfold rd at h_; rw [Int.toNat_natCast] at h_; rw [h_]; exact HQ.out)]; rfl, HB2.out⟩
   | false =>
    have HQ := zC.mk hq
    clear hq
    go_wp2_with fail
    refine (HP.out _ y HB.out).mono ?_
    rintro e w' ⟨rfl, hb2⟩
    rw [HQ.out]
    have HB2 := zC.mk (HB.out.trans (hb2.mono HB.out.size))
    clear hb2
    go_wp2
    go_roundg (xs.length - (kk + 1))
    case measure => omega
    case rel => exact ⟨kk + 1, by omega, by omega, by go_num, ⟨fun j hj => by
     by_cases e : j = kk
     ·
      subst e
      have h_ := HY.out
      unfold rd at h_
      rw [Int.toNat_natCast] at h_
      rw [h_]
      exact HQ.out
     ·
      exact AF.out j (by omega)⟩, HB2.out⟩
  ·
   have hltz : ¬ (kk : Int) < (xs.length : Int) := by omega
   go_wp2
   go_ret
   exact ⟨by rw [fidx_miss p xs 0 (fun j hj => AF.out j (by omega))]; rfl, HB.out⟩
set_option maxHeartbeats 1000000 in
theorem ContainsFunc_i64 (p : Int → Bool) (g : Nat) (lb : Array Value) (eg : ∀ args w, (callFunc g args).run Try.prog w = .ok (.enter g args) w) (A : Option Addr) (c : Nat) (xs : List Int) (w : World)
  (hp : ∀ W x, Below w.heap.size w W → Calls Try.prog g (#[.int .i64 x] ++ lb) W fun e W' => e = .returned (.bool (p x)) ∧ Below W.heap.size W W')
  (hr : Kd.C (Kd.int .i64) w A xs.length xs) :
  Calls Try.prog 120 #[.slice A xs.length c, .func (.func g) #[] lb] w fun e w' => e = .returned (.bool (xs.any p)) ∧ Below w.heap.size w w' := by
 have H := zC.mk (IndexFunc_i64 p g lb eg A c xs w hp hr)
 have HN := zC.mk (fidx_nonneg p xs)
 generalize fidx p xs = r at H HN
 clear hp hr eg
 go_enter Try.func120, Try.ntmps120
 go_wp2_with fail
 refine H.out.mono ?_
 rintro e w' ⟨rfl, hb⟩
 have HB := zC.mk hb
 clear hb
 go_wp2
 go_ret
 exact ⟨by rw [← HN.out]; rfl, HB.out⟩
set_option maxHeartbeats 1000000 in
theorem impl_allWithin_1.walk (x lo hi : Int) (b c : Nat) (W : World) (hb : W.cell? ⟨b, 0, none⟩ = some (.int .i64 lo)) (hc : W.cell? ⟨c, 0, none⟩ = some (.int .i64 hi)) :
  Calls Try.prog 121 #[.int .i64 x, .pointer (some ⟨b, 0, none⟩), .pointer (some ⟨c, 0, none⟩)] W fun e W' => e = .returned (.bool (!(decide (lo ≤ x) && decide (x ≤ hi)))) ∧ Drawn0 W W' := by
 by_cases h1 : lo ≤ x
 ·
  by_cases h2 : x ≤ hi
  all_goals
   go_enter Try.func121, Try.ntmps121
   go_wp2
   go_ret
   exact ⟨by simp [h1, h2], Drawn0.refl _⟩
 ·
  go_enter Try.func121, Try.ntmps121
  go_wp2
  go_ret
  exact ⟨by simp [h1], Drawn0.refl _⟩
set_option maxHeartbeats 1000000 in
theorem wB.calls (A0 : Option Addr) (c0 : Nat) (l0 : List Int) (a1 : Int) (a2 : Int) (r : Bool) (w : World) (hr0 : Kd.C (Kd.int .i64) w A0 l0.length l0) (hc0 : l0.length ≤ c0) (h : wB.f l0 a1 a2 = some r) :
  Calls Try.prog 65 #[.slice A0 l0.length c0, .int .i64 a1, .int .i64 a2] w fun e w' => e = .returned (.bool r) ∧ Below w.heap.size w w' := by
 have HC := zC.mk (fun (W : World) (h1 : W.cell? ⟨w.heap.size, 0, none⟩ = some (.int .i64 a1)) (h2 : W.cell? ⟨w.heap.size + 1, 0, none⟩ = some (.int .i64 a2)) (hz : w.heap.size + 1 < W.heap.size) (hr : Kd.C (Kd.int .i64) W A0 l0.length l0) =>
  ContainsFunc_i64 (fun n => !(decide (a1 ≤ n) && decide (n ≤ a2))) 121 #[.pointer (some ⟨w.heap.size, 0, none⟩), .pointer (some ⟨w.heap.size + 1, 0, none⟩)] (enters_of Try.func121 (by kernel_rfl) rfl) A0 c0 l0 W
   (fun W1 x hb => (impl_allWithin_1.walk x a1 a2 _ _ W1 ((hb.cell (p := ⟨w.heap.size, 0, none⟩) (Nat.lt_of_succ_lt hz)).trans h1) ((hb.cell (p := ⟨w.heap.size + 1, 0, none⟩) hz).trans h2)).mono (fun e w' ⟨a, b⟩ => ⟨a, b.below⟩)) hr)
 have HR := zC.mk hr0
 have HE := zC.mk (show (!(l0.any fun n => !(decide (a1 ≤ n) && decide (n ≤ a2)))) = r by
  rw [← Option.some.inj h, List.not_any_eq_all_not]
  simp)
 clear hr0 hc0 h
 generalize (l0.any fun n => !(decide (a1 ≤ n) && decide (n ≤ a2))) = q at HC HE
 go_enter Try.func65, Try.ntmps65
 go_wp2_with fail
 refine (HC.out _ (by simp) (by simp) (by simp) (Kd.C_alloc (Kd.C_alloc HR.out _) _)).mono ?_
 rintro e w' ⟨rfl, hb⟩
 have HB := zC.mk ((((Below.refl _ w).alloc (Nat.le_refl _) _).alloc (by simp) _).trans (hb.mono (by simp; omega)))
 clear hb
 go_wp2
 go_ret
 exact ⟨by rw [← HE.out]; rfl, HB.out⟩
theorem xK.calls (a0_0 : Int) (a0_1 : Int) (a0_2 : Int) (r : Int) (w : World) (h : xK.f a0_0 a0_1 a0_2 = some r) :
  Calls Try.prog 97 #[.agg #[.int .i64 a0_0, .int .i64 a0_1, .int .i64 a0_2]] w fun e w' => e = .returned (.int .i64 r) ∧ Below w.heap.size w w' := by
 have hu28 := Try.underlying28
 have HB := zC.mk (Below.refl w.heap.size w)
 have H : (some (wrap64 (a0_0 * a0_2))) = some r := h
 clear h
 obtain rfl := Option.some.inj H
 go_enter Try.func97, Try.ntmps97
 go_wp2_with (first | ((with_reducible refine zP (N := 1) rfl ?_); refine zO ?hg (N := 1) ?hd (cs := #[.int .i64 a0_0, .int .i64 a0_1, .int .i64 a0_2]) (t := 28) ?hr ?_; (case hd => rfl); (case hg => rfl); (case hr => first | (go_simp; done) | (go_simp; rfl)); intro gb198 hg w2 hbox hb; have n0_ := zC.mk (zL (by repeat (first | (with_reducible first | exact HB.out | apply zG | apply zA | apply zF) | exact HB.out)) hb); have n1_ := zC.mk (hbox); have n2_ := zC.mk ((by rw [hg]; exact (zM (by repeat (first | (with_reducible first | exact HB.out | apply zG | apply zA | apply zF) | exact HB.out))) : w.heap.size ≤ gb198)); have n3_ := n2_; clear HB; have HB := n0_; have BK198 := n1_; have GW198 := n2_; have GE198 := n3_; clear n0_ n1_ n2_ n3_; clear hb hbox hg; have hcz3_0 : w2.cell? ⟨gb198, 0, none⟩ = some (.int .i64 a0_0) := zB BK198.out 0; have hcz3_1 : w2.cell? ⟨gb198, 1, none⟩ = some (.int .i64 a0_1) := zB BK198.out 1; have hcz3_2 : w2.cell? ⟨gb198, 2, none⟩ = some (.int .i64 a0_2) := zB BK198.out 2; have hfz3_0 := zJ BK198.out 0; have hfz3_1 := zJ BK198.out 1; have hfz3_2 := zJ BK198.out 2))
 go_ret
 exact ⟨by first | rfl | (simp [*, errW_none, errW_some] <;> rfl), by repeat (first | (with_reducible first | exact HB.out | apply zG | apply zA | apply zF | refine zH ?_ GE198.out) | exact HB.out)⟩
theorem wL.calls (a0 : Int) (r : Bool) (w : World) (h : wL.f a0 = some r) :
  Calls Try.prog 118 #[.int .i64 a0] w fun e w' => e = .returned (.bool r) ∧ Drawn0 w w' := by
 have H : ((xM.f a0 0 1).bind fun t199 => (some t199)) = some r := h
 clear h
 replace H := Option.bind_eq_some_iff.mp H
 obtain ⟨t199, A20, H⟩ := H
 replace H : (some t199) = some r := H
 have A2 := zC.mk A20
 clear A20
 obtain rfl := Option.some.inj H
 go_enter Try.func118, Try.ntmps118
 go_wp2_with (first | ((with_reducible refine zS (f := 114) rfl ?_); refine zZ (some 4) rfl rfl Try.func114 (by kernel_rfl) rfl #[.int .i64 a0, .int .i64 0, .int .i64 1] rfl (by (try simp only [List.map_toArray, List.map_cons, List.map_nil]); first | done | rfl) ?_; (with_reducible refine (xM.calls a0 0 1 t199 _ A2.out).mono ?_); rintro e w' ⟨rfl, ⟨nd, rfl⟩⟩; refine ⟨_, rfl, ?_⟩))
 go_ret
 exact ⟨by first | rfl | (simp; done) | (simp [*]; done), by repeat (first | exact Drawn0.refl _ | apply Drawn0.step)⟩
theorem wD.calls (a0_0 : Int) (a0_1 : Int) (a0_2 : Int) (r : Bool) (w : World) (h : wD.f a0_0 a0_1 a0_2 = some r) :
  Calls Try.prog 119 #[.agg #[.int .i64 a0_0, .int .i64 a0_1, .int .i64 a0_2]] w fun e w' => e = .returned (.bool r) ∧ Below w.heap.size w w' := by
 have hu28 := Try.underlying28
 have HB := zC.mk (Below.refl w.heap.size w)
 have H : ((xM.f a0_0 1 64).bind fun t201 => (if t201 = true then ((xM.f a0_2 1 64).bind fun t202 => (if t202 = true then ((xM.f a0_1 0 (wrap64 (a0_0 - 1))).bind fun t203 => (if t203 = true then ((xK.f a0_0 a0_1 a0_2).bind fun t204 => (some (decide (t204 ≤ 64)))) else (some false))) else (some false))) else (some false))) = some r := h
 clear h
 replace H := Option.bind_eq_some_iff.mp H
 obtain ⟨t201, A20, H⟩ := H
 replace H : (if t201 = true then ((xM.f a0_2 1 64).bind fun t202 => (if t202 = true then ((xM.f a0_1 0 (wrap64 (a0_0 - 1))).bind fun t203 => (if t203 = true then ((xK.f a0_0 a0_1 a0_2).bind fun t204 => (some (decide (t204 ≤ 64)))) else (some false))) else (some false))) else (some false)) = some r := H
 have A2 := zC.mk A20
 clear A20
 by_cases c3 : t201 = true
 ·
  subst c3
  have H1 : ((xM.f a0_2 1 64).bind fun t202 => (if t202 = true then ((xM.f a0_1 0 (wrap64 (a0_0 - 1))).bind fun t203 => (if t203 = true then ((xK.f a0_0 a0_1 a0_2).bind fun t204 => (some (decide (t204 ≤ 64)))) else (some false))) else (some false))) = some r := by rw [if_pos rfl] at H; exact H
  clear H
  have H := H1
  clear H1
  replace H := Option.bind_eq_some_iff.mp H
  obtain ⟨t202, A40, H⟩ := H
  replace H : (if t202 = true then ((xM.f a0_1 0 (wrap64 (a0_0 - 1))).bind fun t203 => (if t203 = true then ((xK.f a0_0 a0_1 a0_2).bind fun t204 => (some (decide (t204 ≤ 64)))) else (some false))) else (some false)) = some r := H
  have A4 := zC.mk A40
  clear A40
  by_cases c5 : t202 = true
  ·
   subst c5
   have H1 : ((xM.f a0_1 0 (wrap64 (a0_0 - 1))).bind fun t203 => (if t203 = true then ((xK.f a0_0 a0_1 a0_2).bind fun t204 => (some (decide (t204 ≤ 64)))) else (some false))) = some r := by rw [if_pos rfl] at H; exact H
   clear H
   have H := H1
   clear H1
   replace H := Option.bind_eq_some_iff.mp H
   obtain ⟨t203, A60, H⟩ := H
   replace H : (if t203 = true then ((xK.f a0_0 a0_1 a0_2).bind fun t204 => (some (decide (t204 ≤ 64)))) else (some false)) = some r := H
   have A6 := zC.mk A60
   clear A60
   by_cases c7 : t203 = true
   ·
    subst c7
    have H1 : ((xK.f a0_0 a0_1 a0_2).bind fun t204 => (some (decide (t204 ≤ 64)))) = some r := by rw [if_pos rfl] at H; exact H
    clear H
    have H := H1
    clear H1
    replace H := Option.bind_eq_some_iff.mp H
    obtain ⟨t204, A80, H⟩ := H
    replace H : (some (decide (t204 ≤ 64))) = some r := H
    have A8 := zC.mk A80
    clear A80
    obtain rfl := Option.some.inj H
    go_enter Try.func119, Try.ntmps119
    go_wp2_with (first | ((with_reducible refine zP (N := 1) rfl ?_); refine zO ?hg (N := 1) ?hd (cs := #[.int .i64 a0_0, .int .i64 a0_1, .int .i64 a0_2]) (t := 28) ?hr ?_; (case hd => rfl); (case hg => rfl); (case hr => first | (go_simp; done) | (go_simp; rfl)); intro gb200 hg w9 hbox hb; have n0_ := zC.mk (zL (by repeat (first | (with_reducible first | exact HB.out | apply zG | apply zA | apply zF) | exact HB.out)) hb); have n1_ := zC.mk (hbox); have n2_ := zC.mk ((by rw [hg]; exact (zM (by repeat (first | (with_reducible first | exact HB.out | apply zG | apply zA | apply zF) | exact HB.out))) : w.heap.size ≤ gb200)); have n3_ := n2_; clear HB; have HB := n0_; have BK200 := n1_; have GW200 := n2_; have GE200 := n3_; clear n0_ n1_ n2_ n3_; clear hb hbox hg; have hcz10_0 : w9.cell? ⟨gb200, 0, none⟩ = some (.int .i64 a0_0) := zB BK200.out 0; have hcz10_1 : w9.cell? ⟨gb200, 1, none⟩ = some (.int .i64 a0_1) := zB BK200.out 1; have hcz10_2 : w9.cell? ⟨gb200, 2, none⟩ = some (.int .i64 a0_2) := zB BK200.out 2; have hfz10_0 := zJ BK200.out 0; have hfz10_1 := zJ BK200.out 1; have hfz10_2 := zJ BK200.out 2) | ((with_reducible refine zS (f := 114) rfl ?_); refine zZ (some 5) rfl rfl Try.func114 (by kernel_rfl) rfl #[.int .i64 a0_0, .int .i64 1, .int .i64 64] rfl (by (try simp only [List.map_toArray, List.map_cons, List.map_nil]); first | done | rfl) ?_; (with_reducible refine (xM.calls a0_0 1 64 true _ A2.out).mono ?_); rintro e w' ⟨rfl, ⟨nd, rfl⟩⟩; refine ⟨_, rfl, ?_⟩) | (go_at_call 114; (with_reducible refine (xM.calls a0_2 1 64 true _ A4.out).mono ?_); rintro e w' ⟨rfl, ⟨nd, rfl⟩⟩) | (go_at_call 114; (with_reducible refine (xM.calls a0_1 0 (wrap64 (a0_0 - 1)) true _ A6.out).mono ?_); rintro e w' ⟨rfl, ⟨nd, rfl⟩⟩) | (go_at_call 97; (with_reducible refine (xK.calls a0_0 a0_1 a0_2 t204 _ A8.out).mono ?_); rintro e w11 ⟨rfl, hb⟩; have n0_ := zC.mk (zK (g := gb200) (o := .cells #[.int .i64 a0_0, .int .i64 a0_1, .int .i64 a0_2] 28 (0, 0)) (by (with_reducible repeat (first | refine zE ?_ _ | refine zI ?_ | refine zD ?_ _)); exact BK200.out) hb); have n1_ := zC.mk (zL (by repeat (first | (with_reducible first | exact HB.out | apply zG | apply zA | apply zF | refine zH ?_ GE200.out) | exact HB.out)) hb); clear BK200; clear HB; have BK200 := n0_; have HB := n1_; clear n0_ n1_; (try clear hb)))
    go_ret
    exact ⟨by first | rfl | (simp [*, errW_none, errW_some] <;> rfl), by repeat (first | (with_reducible first | exact HB.out | apply zG | apply zA | apply zF | refine zH ?_ GE200.out) | exact HB.out)⟩
   ·
    replace c7 := Bool.eq_false_iff.mpr c7
    subst c7
    have H1 : (some false) = some r := by rw [if_neg (show ¬ (false = true) by decide)] at H; exact H
    clear H
    have H := H1
    clear H1
    obtain rfl := Option.some.inj H
    go_enter Try.func119, Try.ntmps119
    go_wp2_with (first | ((with_reducible refine zP (N := 1) rfl ?_); refine zO ?hg (N := 1) ?hd (cs := #[.int .i64 a0_0, .int .i64 a0_1, .int .i64 a0_2]) (t := 28) ?hr ?_; (case hd => rfl); (case hg => rfl); (case hr => first | (go_simp; done) | (go_simp; rfl)); intro gb200 hg w12 hbox hb; have n0_ := zC.mk (zL (by repeat (first | (with_reducible first | exact HB.out | apply zG | apply zA | apply zF) | exact HB.out)) hb); have n1_ := zC.mk (hbox); have n2_ := zC.mk ((by rw [hg]; exact (zM (by repeat (first | (with_reducible first | exact HB.out | apply zG | apply zA | apply zF) | exact HB.out))) : w.heap.size ≤ gb200)); have n3_ := n2_; clear HB; have HB := n0_; have BK200 := n1_; have GW200 := n2_; have GE200 := n3_; clear n0_ n1_ n2_ n3_; clear hb hbox hg; have hcz13_0 : w12.cell? ⟨gb200, 0, none⟩ = some (.int .i64 a0_0) := zB BK200.out 0; have hcz13_1 : w12.cell? ⟨gb200, 1, none⟩ = some (.int .i64 a0_1) := zB BK200.out 1; have hcz13_2 : w12.cell? ⟨gb200, 2, none⟩ = some (.int .i64 a0_2) := zB BK200.out 2; have hfz13_0 := zJ BK200.out 0; have hfz13_1 := zJ BK200.out 1; have hfz13_2 := zJ BK200.out 2) | ((with_reducible refine zS (f := 114) rfl ?_); refine zZ (some 5) rfl rfl Try.func114 (by kernel_rfl) rfl #[.int .i64 a0_0, .int .i64 1, .int .i64 64] rfl (by (try simp only [List.map_toArray, List.map_cons, List.map_nil]); first | done | rfl) ?_; (with_reducible refine (xM.calls a0_0 1 64 true _ A2.out).mono ?_); rintro e w' ⟨rfl, ⟨nd, rfl⟩⟩; refine ⟨_, rfl, ?_⟩) | (go_at_call 114; (with_reducible refine (xM.calls a0_2 1 64 true _ A4.out).mono ?_); rintro e w' ⟨rfl, ⟨nd, rfl⟩⟩) | (go_at_call 114; (with_reducible refine (xM.calls a0_1 0 (wrap64 (a0_0 - 1)) false _ A6.out).mono ?_); rintro e w' ⟨rfl, ⟨nd, rfl⟩⟩))
    go_ret
    exact ⟨by first | rfl | (simp [*, errW_none, errW_some] <;> rfl), by repeat (first | (with_reducible first | exact HB.out | apply zG | apply zA | apply zF | refine zH ?_ GE200.out) | exact HB.out)⟩
  ·
   replace c5 := Bool.eq_false_iff.mpr c5
   subst c5
   have H1 : (some false) = some r := by rw [if_neg (show ¬ (false = true) by decide)] at H; exact H
   clear H
   have H := H1
   clear H1
   obtain rfl := Option.some.inj H
   go_enter Try.func119, Try.ntmps119
   go_wp2_with (first | ((with_reducible refine zP (N := 1) rfl ?_); refine zO ?hg (N := 1) ?hd (cs := #[.int .i64 a0_0, .int .i64 a0_1, .int .i64 a0_2]) (t := 28) ?hr ?_; (case hd => rfl); (case hg => rfl); (case hr => first | (go_simp; done) | (go_simp; rfl)); intro gb200 hg w14 hbox hb; have n0_ := zC.mk (zL (by repeat (first | (with_reducible first | exact HB.out | apply zG | apply zA | apply zF) | exact HB.out)) hb); have n1_ := zC.mk (hbox); have n2_ := zC.mk ((by rw [hg]; exact (zM (by repeat (first | (with_reducible first | exact HB.out | apply zG | apply zA | apply zF) | exact HB.out))) : w.heap.size ≤ gb200)); have n3_ := n2_; clear HB; have HB := n0_; have BK200 := n1_; have GW200 := n2_; have GE200 := n3_; clear n0_ n1_ n2_ n3_; clear hb hbox hg; have hcz15_0 : w14.cell? ⟨gb200, 0, none⟩ = some (.int .i64 a0_0) := zB BK200.out 0; have hcz15_1 : w14.cell? ⟨gb200, 1, none⟩ = some (.int .i64 a0_1) := zB BK200.out 1; have hcz15_2 : w14.cell? ⟨gb200, 2, none⟩ = some (.int .i64 a0_2) := zB BK200.out 2; have hfz15_0 := zJ BK200.out 0; have hfz15_1 := zJ BK200.out 1; have hfz15_2 := zJ BK200.out 2) | ((with_reducible refine zS (f := 114) rfl ?_); refine zZ (some 5) rfl rfl Try.func114 (by kernel_rfl) rfl #[.int .i64 a0_0, .int .i64 1, .int .i64 64] rfl (by (try simp only [List.map_toArray, List.map_cons, List.map_nil]); first | done | rfl) ?_; (with_reducible refine (xM.calls a0_0 1 64 true _ A2.out).mono ?_); rintro e w' ⟨rfl, ⟨nd, rfl⟩⟩; refine ⟨_, rfl, ?_⟩) | (go_at_call 114; (with_reducible refine (xM.calls a0_2 1 64 false _ A4.out).mono ?_); rintro e w' ⟨rfl, ⟨nd, rfl⟩⟩))
   go_ret
   exact ⟨by first | rfl | (simp [*, errW_none, errW_some] <;> rfl), by repeat (first | (with_reducible first | exact HB.out | apply zG | apply zA | apply zF | refine zH ?_ GE200.out) | exact HB.out)⟩
 ·
  replace c3 := Bool.eq_false_iff.mpr c3
  subst c3
  have H1 : (some false) = some r := by rw [if_neg (show ¬ (false = true) by decide)] at H; exact H
  clear H
  have H := H1
  clear H1
  obtain rfl := Option.some.inj H
  go_enter Try.func119, Try.ntmps119
  go_wp2_with (first | ((with_reducible refine zP (N := 1) rfl ?_); refine zO ?hg (N := 1) ?hd (cs := #[.int .i64 a0_0, .int .i64 a0_1, .int .i64 a0_2]) (t := 28) ?hr ?_; (case hd => rfl); (case hg => rfl); (case hr => first | (go_simp; done) | (go_simp; rfl)); intro gb200 hg w16 hbox hb; have n0_ := zC.mk (zL (by repeat (first | (with_reducible first | exact HB.out | apply zG | apply zA | apply zF) | exact HB.out)) hb); have n1_ := zC.mk (hbox); have n2_ := zC.mk ((by rw [hg]; exact (zM (by repeat (first | (with_reducible first | exact HB.out | apply zG | apply zA | apply zF) | exact HB.out))) : w.heap.size ≤ gb200)); have n3_ := n2_; clear HB; have HB := n0_; have BK200 := n1_; have GW200 := n2_; have GE200 := n3_; clear n0_ n1_ n2_ n3_; clear hb hbox hg; have hcz17_0 : w16.cell? ⟨gb200, 0, none⟩ = some (.int .i64 a0_0) := zB BK200.out 0; have hcz17_1 : w16.cell? ⟨gb200, 1, none⟩ = some (.int .i64 a0_1) := zB BK200.out 1; have hcz17_2 : w16.cell? ⟨gb200, 2, none⟩ = some (.int .i64 a0_2) := zB BK200.out 2; have hfz17_0 := zJ BK200.out 0; have hfz17_1 := zJ BK200.out 1; have hfz17_2 := zJ BK200.out 2) | ((with_reducible refine zS (f := 114) rfl ?_); refine zZ (some 5) rfl rfl Try.func114 (by kernel_rfl) rfl #[.int .i64 a0_0, .int .i64 1, .int .i64 64] rfl (by (try simp only [List.map_toArray, List.map_cons, List.map_nil]); first | done | rfl) ?_; (with_reducible refine (xM.calls a0_0 1 64 false _ A2.out).mono ?_); rintro e w' ⟨rfl, ⟨nd, rfl⟩⟩; refine ⟨_, rfl, ?_⟩))
  go_ret
  exact ⟨by first | rfl | (simp [*, errW_none, errW_some] <;> rfl), by repeat (first | (with_reducible first | exact HB.out | apply zG | apply zA | apply zF | refine zH ?_ GE200.out) | exact HB.out)⟩
def xO.T1 : Bool × List (List Nat × List Nat) := (true, [([], []), ([0], [0]), ([1], [1]), ([2, 2], [2]), ([3], [3]), ([4, 3], [3, 4]), ([5, 3, 3], [3, 5]), ([3, 6], [3, 6]), ([7, 6], [7]), ([8], [8]), ([9, 8], [8, 9]), ([10, 8], [8, 10]), ([8], [8]), ([12, 8], [8, 12]), ([13, 8, 8], [8, 13]), ([11, 14, 8], [8, 11, 14]), ([8, 15], [8, 15]), ([16, 14], [16]), ([17], [17]), ([18, 17], [17, 18]), ([19, 17, 17], [17, 19]), ([17, 20], [17, 20]), ([21, 20, 0, 1, 2, 3, 4, 5, 6, 7, 8, 9, 10, 11, 12, 13, 14, 15, 16, 17, 18, 19, 20, 21], [21])])
def xO.B1 : List Nat := [0, 1, 3, 7, 15, 31, 63, 127, 255, 511, 1023, 2047, 511, 4607, 12799, 32767, 65535, 131071, 262143, 524287, 1048575, 2097151, 4194303]
theorem xO.tab1 : rtab .any (opsOf Try.f64 1) = xO.T1 := by kernel_rfl
theorem xO.bits1 : waitsOk xO.T1.2 xO.B1 = true := by kernel_rfl
theorem xO.calls (a0_0 : Int) (a0_1 : Int) (a0_2 : Int) (a0_3 : Int) (A0_4 : Option Addr) (c0_4 : Nat) (l0_4 : List Int) (r : Bool) (w : World) (hr0_4 : Kd.C (Kd.int .i64) w A0_4 l0_4.length l0_4) (hc0_4 : l0_4.length ≤ c0_4) (h : xO.f a0_0 a0_1 a0_2 a0_3 l0_4 = some r) :
  Calls Try.prog 64 #[.agg #[.int .i64 a0_0, .int .i64 a0_1, .int .i64 a0_2, .int .i64 a0_3, .slice A0_4 l0_4.length c0_4]] w fun e w' => e = .returned (.bool r) ∧ Below w.heap.size w w' := by
 have hu30 := Try.underlying30
 have hu28 := Try.underlying28
 have HR0_4 := zC.mk hr0_4
 have HC0_4 := zC.mk hc0_4
 clear hr0_4 hc0_4
 have HB := zC.mk (Below.refl w.heap.size w)
 have H : ((wL.f a0_0).bind fun t206 => (if t206 = true then ((wD.f a0_1 a0_2 a0_3).bind fun t207 => (if t207 = true then ((xK.f a0_1 a0_2 a0_3).bind fun t208 => (if (l0_4.length : Int) = t208 then ((wB.f l0_4 0 9).bind fun t209 => (some t209)) else (some false))) else (some false))) else (some false))) = some r := h
 clear h
 replace H := Option.bind_eq_some_iff.mp H
 obtain ⟨t206, A20, H⟩ := H
 replace H : (if t206 = true then ((wD.f a0_1 a0_2 a0_3).bind fun t207 => (if t207 = true then ((xK.f a0_1 a0_2 a0_3).bind fun t208 => (if (l0_4.length : Int) = t208 then ((wB.f l0_4 0 9).bind fun t209 => (some t209)) else (some false))) else (some false))) else (some false)) = some r := H
 have A2 := zC.mk A20
 clear A20
 by_cases c3 : t206 = true
 ·
  subst c3
  have H1 : ((wD.f a0_1 a0_2 a0_3).bind fun t207 => (if t207 = true then ((xK.f a0_1 a0_2 a0_3).bind fun t208 => (if (l0_4.length : Int) = t208 then ((wB.f l0_4 0 9).bind fun t209 => (some t209)) else (some false))) else (some false))) = some r := by rw [if_pos rfl] at H; exact H
  clear H
  have H := H1
  clear H1
  replace H := Option.bind_eq_some_iff.mp H
  obtain ⟨t207, A40, H⟩ := H
  replace H : (if t207 = true then ((xK.f a0_1 a0_2 a0_3).bind fun t208 => (if (l0_4.length : Int) = t208 then ((wB.f l0_4 0 9).bind fun t209 => (some t209)) else (some false))) else (some false)) = some r := H
  have A4 := zC.mk A40
  clear A40
  by_cases c5 : t207 = true
  ·
   subst c5
   have H1 : ((xK.f a0_1 a0_2 a0_3).bind fun t208 => (if (l0_4.length : Int) = t208 then ((wB.f l0_4 0 9).bind fun t209 => (some t209)) else (some false))) = some r := by rw [if_pos rfl] at H; exact H
   clear H
   have H := H1
   clear H1
   replace H := Option.bind_eq_some_iff.mp H
   obtain ⟨t208, A60, H⟩ := H
   replace H : (if (l0_4.length : Int) = t208 then ((wB.f l0_4 0 9).bind fun t209 => (some t209)) else (some false)) = some r := H
   have A6 := zC.mk A60
   clear A60
   by_cases c7 : (l0_4.length : Int) = t208
   ·
    rw [if_pos c7] at H
    have c7b0 : ((l0_4.length : Int) == t208) = true := beq_iff_eq.mpr c7
    have c7b1 : ((l0_4.length : Int) != t208) = false := bne_eq_false_iff_eq.mpr c7
    clear c7
    replace H := Option.bind_eq_some_iff.mp H
    obtain ⟨t209, A80, H⟩ := H
    replace H : (some t209) = some r := H
    have A8 := zC.mk A80
    clear A80
    obtain rfl := Option.some.inj H
    go_enter Try.func64, Try.ntmps64
    try go_wp2_with (first | ((with_reducible refine zP (N := 1) rfl ?_); (try (refine gate_guard (by rfl) ?_; dsimp only)); refine zO ?hg (N := 1) ?hd (cs := #[.int .i64 a0_0, .int .i64 a0_1, .int .i64 a0_2, .int .i64 a0_3, .slice A0_4 l0_4.length c0_4]) (t := 30) ?hr ?_; (case hd => rfl); (case hg => rfl); (case hr => first | (go_simp; done) | (go_simp; rfl)); intro gb205 hg w9 hbox hb; have n0_ := zC.mk (zL (by repeat (first | (with_reducible first | exact HB.out | apply zG | apply zA | apply zF) | exact HB.out)) hb); have n1_ := zC.mk (hbox); have n2_ := zC.mk ((by rw [hg]; exact (zM (by repeat (first | (with_reducible first | exact HB.out | apply zG | apply zA | apply zF) | exact HB.out))) : w.heap.size ≤ gb205)); have n3_ := n2_; clear HB; have HB := n0_; have BK205 := n1_; have GW205 := n2_; have GE205 := n3_; clear n0_ n1_ n2_ n3_; clear hb hbox hg))
    have n0_ := zC.mk (zI BK205.out)
    have n1_ := zC.mk (zF HB.out)
    clear BK205
    clear HB
    have BK205 := n0_
    have HB := n1_
    clear n0_ n1_
    refine start_ (n := 23) (S := fun w' => w'.cell? ⟨gb205, 0, none⟩ = some (.int .i64 a0_0) ∧ w'.cell? ⟨gb205, 1, none⟩ = some (.int .i64 a0_1) ∧ w'.cell? ⟨gb205, 2, none⟩ = some (.int .i64 a0_2) ∧ w'.cell? ⟨gb205, 3, none⟩ = some (.int .i64 a0_3) ∧ w'.cell? ⟨gb205, 4, none⟩ = some (.slice A0_4 l0_4.length c0_4)) (ds := []) #[false, false, false, false, false, false, false, false, false, false, false, false, false, false, false, false, false, false, false, false, false, false, false] (by kernel_rfl) rfl rfl ⟨zB BK205.out 0, zB BK205.out 1, zB BK205.out 2, zB BK205.out 3, zB BK205.out 4⟩ (fun hHeld => ?_); refine yE xO.tab1 xO.bits1 (fun HT_ HW_ => ?_)
    generalize w9.drew = w10 at BK205 HB hHeld ⊢
    refine zT (i := 0) (N := some 3) (v := ?_) (a' := ?_) #[true, false, false, false, false, false, false, false, false, false, false, false, false, false, false, false, false, false, false, false, false, false, false] rfl rfl (zN HT_.out (by kernel_rfl)) (fun _ _ _ h => h) (Or.inl ⟨by rfl, ?_⟩) ?_ ?_
    rotate_left
    ·
     intro w'
     go_simp
     with_reducible rfl
    rotate_left
    ·
     go_simp
     rfl
    refine yC (i := 1) (N := some 4) (v := ?_) (a' := ?_) #[true, true, false, false, false, false, false, false, false, false, false, false, false, false, false, false, false, false, false, false, false, false, false] rfl rfl (zY HT_.out HW_.out (by kernel_rfl)) (fun _ _ _ h => h) (Or.inl ⟨by rfl, ?_⟩) hHeld ?_ ?_
    rotate_left
    ·
     rintro w' ⟨s0, s1, s2, s3, s4⟩
     go_simp
     with_reducible rfl
    rotate_left
    ·
     go_simp
     rfl
    refine one_ (i := 2) (N := some 5) #[true, true, true, false, false, false, false, false, false, false, false, false, false, false, false, false, false, false, false, false, false, false, false] rfl rfl (yB HT_.out (by kernel_rfl)) (by decide) (fun K hK => ?_)
    refine yD Try.func118 (by kernel_rfl) rfl #[.int .i64 a0_0] (by rfl) rfl rfl (by (try simp only [List.map_toArray, List.map_cons, List.map_nil]); first | done | rfl) ?_
    with_reducible refine (wL.calls a0_0 true _ A2.out).mono ?_
    rintro e w' ⟨rfl, ⟨nd, rfl⟩⟩
    refine ⟨_, rfl, ?_⟩
    refine hK.out _ _ ⟨zB BK205.out 0, zB BK205.out 1, zB BK205.out 2, zB BK205.out 3, zB BK205.out 4⟩ (fun hHeld => ?_)
    clear hK K
    refine yA (a' := ?_) ?_ ?_
    rotate_left
    ·
     show Act.put _ (some 5) _ = _
     go_simp
     rfl
    refine zT (i := 3) (N := some 6) (v := ?_) (a' := ?_) #[true, true, true, true, false, false, false, false, false, false, false, false, false, false, false, false, false, false, false, false, false, false, false] rfl rfl (zN HT_.out (by kernel_rfl)) (fun _ _ _ h => h) (Or.inl ⟨by rfl, ?_⟩) ?_ ?_
    rotate_left
    ·
     intro w'
     go_simp
     with_reducible rfl
    rotate_left
    ·
     go_simp
     rfl
    refine zT (i := 4) (N := some 7) (v := ?_) (a' := ?_) #[true, true, true, true, true, false, false, false, false, false, false, false, false, false, false, false, false, false, false, false, false, false, false] rfl rfl (zN HT_.out (by kernel_rfl)) (fun _ _ _ h => h) (Or.inl ⟨by rfl, ?_⟩) ?_ ?_
    rotate_left
    ·
     intro w'
     go_simp
     with_reducible rfl
    rotate_left
    ·
     go_simp
     rfl
    refine yC (i := 5) (N := some 8) (v := ?_) (a' := ?_) #[true, true, true, true, true, true, false, false, false, false, false, false, false, false, false, false, false, false, false, false, false, false, false] rfl rfl (zY HT_.out HW_.out (by kernel_rfl)) (fun _ _ _ h => h) (Or.inl ⟨by rfl, ?_⟩) hHeld ?_ ?_
    rotate_left
    ·
     rintro w' ⟨s0, s1, s2, s3, s4⟩
     go_simp
     with_reducible rfl
    rotate_left
    ·
     go_simp
     rfl
    refine one_ (i := 6) (N := some 9) #[true, true, true, true, true, true, true, false, false, false, false, false, false, false, false, false, false, false, false, false, false, false, false] rfl rfl (yB HT_.out (by kernel_rfl)) (by decide) (fun K hK => ?_)
    refine yD Try.func119 (by kernel_rfl) rfl #[.agg #[.int .i64 a0_1, .int .i64 a0_2, .int .i64 a0_3]] (by rfl) rfl rfl (by (try simp only [List.map_toArray, List.map_cons, List.map_nil]); first | done | rfl) ?_
    with_reducible refine (wD.calls a0_1 a0_2 a0_3 true _ A4.out).mono ?_
    rintro e w11 ⟨rfl, hb⟩
    refine ⟨_, rfl, ?_⟩
    have n0_ := zC.mk (zK (g := gb205) (o := .cells #[.int .i64 a0_0, .int .i64 a0_1, .int .i64 a0_2, .int .i64 a0_3, .slice A0_4 l0_4.length c0_4] 30 (0, 0)) (by (with_reducible repeat (first | refine zE ?_ _ | refine zI ?_ | refine zD ?_ _)); exact BK205.out) hb)
    have n1_ := zC.mk (zL (by repeat (first | (with_reducible first | exact HB.out | apply zG | apply zA | apply zF | refine zH ?_ GE205.out) | exact HB.out)) hb)
    clear BK205
    clear HB
    have BK205 := n0_
    have HB := n1_
    clear n0_ n1_
    (try clear hb)
    refine hK.out _ _ ⟨zB BK205.out 0, zB BK205.out 1, zB BK205.out 2, zB BK205.out 3, zB BK205.out 4⟩ (fun hHeld => ?_)
    clear hK K
    refine yA (a' := ?_) ?_ ?_
    rotate_left
    ·
     show Act.put _ (some 9) _ = _
     go_simp
     rfl
    refine zT (i := 7) (N := some 10) (v := ?_) (a' := ?_) #[true, true, true, true, true, true, true, true, false, false, false, false, false, false, false, false, false, false, false, false, false, false, false] rfl rfl (zN HT_.out (by kernel_rfl)) (fun _ _ _ h => h) (Or.inl ⟨by rfl, ?_⟩) ?_ ?_
    rotate_left
    ·
     intro w'
     go_simp
     with_reducible rfl
    rotate_left
    ·
     go_simp
     rfl
    refine zT (i := 8) (N := some 11) (v := ?_) (a' := ?_) #[true, true, true, true, true, true, true, true, true, false, false, false, false, false, false, false, false, false, false, false, false, false, false] rfl rfl (zN HT_.out (by kernel_rfl)) (fun _ _ _ h => h) (Or.inl ⟨by rfl, ?_⟩) ?_ ?_
    rotate_left
    ·
     intro w'
     go_simp
     with_reducible rfl
    rotate_left
    ·
     go_simp
     rfl
    refine zT (i := 9) (N := some 12) (v := ?_) (a' := ?_) #[true, true, true, true, true, true, true, true, true, true, false, false, false, false, false, false, false, false, false, false, false, false, false] rfl rfl (zN HT_.out (by kernel_rfl)) (fun _ _ _ h => h) (Or.inl ⟨by rfl, ?_⟩) ?_ ?_
    rotate_left
    ·
     intro w'
     go_simp
     with_reducible rfl
    rotate_left
    ·
     go_simp
     rfl
    refine zT (i := 12) (N := some 15) (v := ?_) (a' := ?_) #[true, true, true, true, true, true, true, true, true, true, false, false, true, false, false, false, false, false, false, false, false, false, false] rfl rfl (zN HT_.out (by kernel_rfl)) (fun _ _ _ h => h) (Or.inl ⟨by rfl, ?_⟩) ?_ ?_
    rotate_left
    ·
     intro w'
     go_simp
     with_reducible rfl
    rotate_left
    ·
     go_simp
     rfl
    refine yC (i := 10) (N := some 13) (v := ?_) (a' := ?_) #[true, true, true, true, true, true, true, true, true, true, true, false, true, false, false, false, false, false, false, false, false, false, false] rfl rfl (zY HT_.out HW_.out (by kernel_rfl)) (fun _ _ _ h => h) (Or.inl ⟨by rfl, ?_⟩) hHeld ?_ ?_
    rotate_left
    ·
     rintro w' ⟨s0, s1, s2, s3, s4⟩
     go_simp
     with_reducible rfl
    rotate_left
    ·
     go_simp
     rfl
    refine zT (i := 11) (N := some 14) (v := ?_) (a' := ?_) #[true, true, true, true, true, true, true, true, true, true, true, true, true, false, false, false, false, false, false, false, false, false, false] rfl rfl (zN HT_.out (by kernel_rfl)) (fun _ _ _ h => h) (Or.inl ⟨by rfl, ?_⟩) ?_ ?_
    rotate_left
    ·
     intro w'
     go_simp
     with_reducible rfl
    rotate_left
    ·
     go_simp
     rfl
    refine yC (i := 13) (N := some 16) (v := ?_) (a' := ?_) #[true, true, true, true, true, true, true, true, true, true, true, true, true, true, false, false, false, false, false, false, false, false, false] rfl rfl (zY HT_.out HW_.out (by kernel_rfl)) (fun _ _ _ h => h) (Or.inl ⟨by rfl, ?_⟩) hHeld ?_ ?_
    rotate_left
    ·
     rintro w' ⟨s0, s1, s2, s3, s4⟩
     go_simp
     with_reducible rfl
    rotate_left
    ·
     go_simp
     rfl
    refine one_ (i := 14) (N := some 17) #[true, true, true, true, true, true, true, true, true, true, true, true, true, true, true, false, false, false, false, false, false, false, false] rfl rfl (yB HT_.out (by kernel_rfl)) (by decide) (fun K hK => ?_)
    refine yD Try.func97 (by kernel_rfl) rfl #[.agg #[.int .i64 a0_1, .int .i64 a0_2, .int .i64 a0_3]] (by rfl) rfl rfl (by (try simp only [List.map_toArray, List.map_cons, List.map_nil]); first | done | rfl) ?_
    with_reducible refine (xK.calls a0_1 a0_2 a0_3 t208 _ A6.out).mono ?_
    rintro e w12 ⟨rfl, hb⟩
    refine ⟨_, rfl, ?_⟩
    have n0_ := zC.mk (zK (g := gb205) (o := .cells #[.int .i64 a0_0, .int .i64 a0_1, .int .i64 a0_2, .int .i64 a0_3, .slice A0_4 l0_4.length c0_4] 30 (0, 0)) (by (with_reducible repeat (first | refine zE ?_ _ | refine zI ?_ | refine zD ?_ _)); exact BK205.out) hb)
    have n1_ := zC.mk (zL (by repeat (first | (with_reducible first | exact HB.out | apply zG | apply zA | apply zF | refine zH ?_ GE205.out) | exact HB.out)) hb)
    clear BK205
    clear HB
    have BK205 := n0_
    have HB := n1_
    clear n0_ n1_
    (try clear hb)
    refine hK.out _ _ ⟨zB BK205.out 0, zB BK205.out 1, zB BK205.out 2, zB BK205.out 3, zB BK205.out 4⟩ (fun hHeld => ?_)
    clear hK K
    refine yA (a' := ?_) ?_ ?_
    rotate_left
    ·
     show Act.put _ (some 17) _ = _
     go_simp
     rfl
    refine zT (i := 15) (N := some 18) (v := ?_) (a' := ?_) #[true, true, true, true, true, true, true, true, true, true, true, true, true, true, true, true, false, false, false, false, false, false, false] rfl rfl (zN HT_.out (by kernel_rfl)) (fun _ _ _ h => h) (Or.inl ⟨by rfl, ?_⟩) ?_ ?_
    rotate_left
    ·
     intro w'
     go_simp
     with_reducible rfl
    rotate_left
    ·
     go_simp
     rfl
    refine zT (i := 16) (N := some 19) (v := ?_) (a' := ?_) #[true, true, true, true, true, true, true, true, true, true, true, true, true, true, true, true, true, false, false, false, false, false, false] rfl rfl (zN HT_.out (by kernel_rfl)) (fun _ _ _ h => h) (Or.inl ⟨by rfl, ?_⟩) ?_ ?_
    rotate_left
    ·
     intro w'
     go_simp
     with_reducible rfl
    rotate_left
    ·
     go_simp
     rfl
    refine zT (i := 17) (N := some 20) (v := ?_) (a' := ?_) #[true, true, true, true, true, true, true, true, true, true, true, true, true, true, true, true, true, true, false, false, false, false, false] rfl rfl (zN HT_.out (by kernel_rfl)) (fun _ _ _ h => h) (Or.inl ⟨by rfl, ?_⟩) ?_ ?_
    rotate_left
    ·
     intro w'
     go_simp
     with_reducible rfl
    rotate_left
    ·
     go_simp
     rfl
    refine zT (i := 18) (N := some 21) (v := ?_) (a' := ?_) #[true, true, true, true, true, true, true, true, true, true, true, true, true, true, true, true, true, true, true, false, false, false, false] rfl rfl (zN HT_.out (by kernel_rfl)) (fun _ _ _ h => h) (Or.inl ⟨by rfl, ?_⟩) ?_ ?_
    rotate_left
    ·
     intro w'
     go_simp
     with_reducible rfl
    rotate_left
    ·
     go_simp
     rfl
    refine yC (i := 19) (N := some 22) (v := ?_) (a' := ?_) #[true, true, true, true, true, true, true, true, true, true, true, true, true, true, true, true, true, true, true, true, false, false, false] rfl rfl (zY HT_.out HW_.out (by kernel_rfl)) (fun _ _ _ h => h) (Or.inl ⟨by rfl, ?_⟩) hHeld ?_ ?_
    rotate_left
    ·
     rintro w' ⟨s0, s1, s2, s3, s4⟩
     go_simp
     with_reducible rfl
    rotate_left
    ·
     go_simp
     rfl
    refine one_ (i := 20) (N := some 23) #[true, true, true, true, true, true, true, true, true, true, true, true, true, true, true, true, true, true, true, true, true, false, false] rfl rfl (yB HT_.out (by kernel_rfl)) (by decide) (fun K hK => ?_)
    refine yD Try.func65 (by kernel_rfl) rfl #[.slice A0_4 l0_4.length c0_4, .int .i64 0, .int .i64 9] (by rfl) rfl rfl (by (try simp only [List.map_toArray, List.map_cons, List.map_nil]); first | done | rfl) ?_
    with_reducible refine (wB.calls _ _ l0_4 0 9 t209 _ ?side1 ?side2 A8.out).mono ?_
    (case side1 => repeat (first | exact (Kd.C_below HR0_4.out HB.out) | (with_reducible refine Kd.C_alloc ?_ _) | (with_reducible refine Kd.C_drewN ?_ _) | (with_reducible refine Kd.C_drew ?_)))
    (case side2 => exact HC0_4.out)
    rintro e w13 ⟨rfl, hb⟩
    refine ⟨_, rfl, ?_⟩
    have n0_ := zC.mk (zK (g := gb205) (o := .cells #[.int .i64 a0_0, .int .i64 a0_1, .int .i64 a0_2, .int .i64 a0_3, .slice A0_4 l0_4.length c0_4] 30 (0, 0)) (by (with_reducible repeat (first | refine zE ?_ _ | refine zI ?_ | refine zD ?_ _)); exact BK205.out) hb)
    have n1_ := zC.mk (zL (by repeat (first | (with_reducible first | exact HB.out | apply zG | apply zA | apply zF | refine zH ?_ GE205.out) | exact HB.out)) hb)
    clear BK205
    clear HB
    have BK205 := n0_
    have HB := n1_
    clear n0_ n1_
    (try clear hb)
    refine hK.out _ _ ⟨zB BK205.out 0, zB BK205.out 1, zB BK205.out 2, zB BK205.out 3, zB BK205.out 4⟩ (fun hHeld => ?_)
    clear hK K
    refine yA (a' := ?_) ?_ ?_
    rotate_left
    ·
     show Act.put _ (some 23) _ = _
     go_simp
     rfl
    refine zT (i := 21) (N := some 24) (v := ?_) (a' := ?_) #[true, true, true, true, true, true, true, true, true, true, true, true, true, true, true, true, true, true, true, true, true, true, false] rfl rfl (zN HT_.out (by kernel_rfl)) (fun _ _ _ h => h) (Or.inl ⟨by rfl, ?_⟩) ?_ ?_
    rotate_left
    ·
     intro w'
     go_simp
     with_reducible rfl
    rotate_left
    ·
     go_simp
     rfl
    refine zT (i := 22) (N := some 2) (v := ?_) (a' := ?_) #[true, true, true, true, true, true, true, true, true, true, true, true, true, true, true, true, true, true, true, true, true, true, true] rfl rfl (zN HT_.out (by kernel_rfl)) (fun _ _ _ h => h) (Or.inl ⟨by rfl, ?_⟩) ?_ ?_
    rotate_left
    ·
     intro w'
     go_simp
     with_reducible rfl
    rotate_left
    ·
     go_simp
     rfl
    refine done_ (done_of HT_.out (by kernel_rfl)) ?_
    try go_wp2
    go_ret
    exact ⟨by first | rfl | (simp [*, errW_none, errW_some] <;> rfl), by repeat (first | (with_reducible first | exact HB.out | apply zG | apply zA | apply zF | refine zH ?_ GE205.out) | exact HB.out)⟩
   ·
    rw [if_neg c7] at H
    have c7b0 : ((l0_4.length : Int) == t208) = false := beq_eq_false_iff_ne.mpr c7
    have c7b1 : ((l0_4.length : Int) != t208) = true := bne_iff_ne.mpr c7
    obtain rfl := Option.some.inj H
    go_enter Try.func64, Try.ntmps64
    try go_wp2_with (first | ((with_reducible refine zP (N := 1) rfl ?_); (try (refine gate_guard (by rfl) ?_; dsimp only)); refine zO ?hg (N := 1) ?hd (cs := #[.int .i64 a0_0, .int .i64 a0_1, .int .i64 a0_2, .int .i64 a0_3, .slice A0_4 l0_4.length c0_4]) (t := 30) ?hr ?_; (case hd => rfl); (case hg => rfl); (case hr => first | (go_simp; done) | (go_simp; rfl)); intro gb205 hg w14 hbox hb; have n0_ := zC.mk (zL (by repeat (first | (with_reducible first | exact HB.out | apply zG | apply zA | apply zF) | exact HB.out)) hb); have n1_ := zC.mk (hbox); have n2_ := zC.mk ((by rw [hg]; exact (zM (by repeat (first | (with_reducible first | exact HB.out | apply zG | apply zA | apply zF) | exact HB.out))) : w.heap.size ≤ gb205)); have n3_ := n2_; clear HB; have HB := n0_; have BK205 := n1_; have GW205 := n2_; have GE205 := n3_; clear n0_ n1_ n2_ n3_; clear hb hbox hg))
    have n0_ := zC.mk (zI BK205.out)
    have n1_ := zC.mk (zF HB.out)
    clear BK205
    clear HB
    have BK205 := n0_
    have HB := n1_
    clear n0_ n1_
    refine start_ (n := 23) (S := fun w' => w'.cell? ⟨gb205, 0, none⟩ = some (.int .i64 a0_0) ∧ w'.cell? ⟨gb205, 1, none⟩ = some (.int .i64 a0_1) ∧ w'.cell? ⟨gb205, 2, none⟩ = some (.int .i64 a0_2) ∧ w'.cell? ⟨gb205, 3, none⟩ = some (.int .i64 a0_3) ∧ w'.cell? ⟨gb205, 4, none⟩ = some (.slice A0_4 l0_4.length c0_4)) (ds := []) #[false, false, false, false, false, false, false, false, false, false, false, false, false, false, false, false, false, false, false, false, false, false, false] (by kernel_rfl) rfl rfl ⟨zB BK205.out 0, zB BK205.out 1, zB BK205.out 2, zB BK205.out 3, zB BK205.out 4⟩ (fun hHeld => ?_); refine yE xO.tab1 xO.bits1 (fun HT_ HW_ => ?_)
    generalize w14.drew = w15 at BK205 HB hHeld ⊢
    refine zT (i := 0) (N := some 3) (v := ?_) (a' := ?_) #[true, false, false, false, false, false, false, false, false, false, false, false, false, false, false, false, false, false, false, false, false, false, false] rfl rfl (zN HT_.out (by kernel_rfl)) (fun _ _ _ h => h) (Or.inl ⟨by rfl, ?_⟩) ?_ ?_
    rotate_left
    ·
     intro w'
     go_simp
     with_reducible rfl
    rotate_left
    ·
     go_simp
     rfl
    refine yC (i := 1) (N := some 4) (v := ?_) (a' := ?_) #[true, true, false, false, false, false, false, false, false, false, false, false, false, false, false, false, false, false, false, false, false, false, false] rfl rfl (zY HT_.out HW_.out (by kernel_rfl)) (fun _ _ _ h => h) (Or.inl ⟨by rfl, ?_⟩) hHeld ?_ ?_
    rotate_left
    ·
     rintro w' ⟨s0, s1, s2, s3, s4⟩
     go_simp
     with_reducible rfl
    rotate_left
    ·
     go_simp
     rfl
    refine one_ (i := 2) (N := some 5) #[true, true, true, false, false, false, false, false, false, false, false, false, false, false, false, false, false, false, false, false, false, false, false] rfl rfl (yB HT_.out (by kernel_rfl)) (by decide) (fun K hK => ?_)
    refine yD Try.func118 (by kernel_rfl) rfl #[.int .i64 a0_0] (by rfl) rfl rfl (by (try simp only [List.map_toArray, List.map_cons, List.map_nil]); first | done | rfl) ?_
    with_reducible refine (wL.calls a0_0 true _ A2.out).mono ?_
    rintro e w' ⟨rfl, ⟨nd, rfl⟩⟩
    refine ⟨_, rfl, ?_⟩
    refine hK.out _ _ ⟨zB BK205.out 0, zB BK205.out 1, zB BK205.out 2, zB BK205.out 3, zB BK205.out 4⟩ (fun hHeld => ?_)
    clear hK K
    refine yA (a' := ?_) ?_ ?_
    rotate_left
    ·
     show Act.put _ (some 5) _ = _
     go_simp
     rfl
    refine zT (i := 3) (N := some 6) (v := ?_) (a' := ?_) #[true, true, true, true, false, false, false, false, false, false, false, false, false, false, false, false, false, false, false, false, false, false, false] rfl rfl (zN HT_.out (by kernel_rfl)) (fun _ _ _ h => h) (Or.inl ⟨by rfl, ?_⟩) ?_ ?_
    rotate_left
    ·
     intro w'
     go_simp
     with_reducible rfl
    rotate_left
    ·
     go_simp
     rfl
    refine zT (i := 4) (N := some 7) (v := ?_) (a' := ?_) #[true, true, true, true, true, false, false, false, false, false, false, false, false, false, false, false, false, false, false, false, false, false, false] rfl rfl (zN HT_.out (by kernel_rfl)) (fun _ _ _ h => h) (Or.inl ⟨by rfl, ?_⟩) ?_ ?_
    rotate_left
    ·
     intro w'
     go_simp
     with_reducible rfl
    rotate_left
    ·
     go_simp
     rfl
    refine yC (i := 5) (N := some 8) (v := ?_) (a' := ?_) #[true, true, true, true, true, true, false, false, false, false, false, false, false, false, false, false, false, false, false, false, false, false, false] rfl rfl (zY HT_.out HW_.out (by kernel_rfl)) (fun _ _ _ h => h) (Or.inl ⟨by rfl, ?_⟩) hHeld ?_ ?_
    rotate_left
    ·
     rintro w' ⟨s0, s1, s2, s3, s4⟩
     go_simp
     with_reducible rfl
    rotate_left
    ·
     go_simp
     rfl
    refine one_ (i := 6) (N := some 9) #[true, true, true, true, true, true, true, false, false, false, false, false, false, false, false, false, false, false, false, false, false, false, false] rfl rfl (yB HT_.out (by kernel_rfl)) (by decide) (fun K hK => ?_)
    refine yD Try.func119 (by kernel_rfl) rfl #[.agg #[.int .i64 a0_1, .int .i64 a0_2, .int .i64 a0_3]] (by rfl) rfl rfl (by (try simp only [List.map_toArray, List.map_cons, List.map_nil]); first | done | rfl) ?_
    with_reducible refine (wD.calls a0_1 a0_2 a0_3 true _ A4.out).mono ?_
    rintro e w16 ⟨rfl, hb⟩
    refine ⟨_, rfl, ?_⟩
    have n0_ := zC.mk (zK (g := gb205) (o := .cells #[.int .i64 a0_0, .int .i64 a0_1, .int .i64 a0_2, .int .i64 a0_3, .slice A0_4 l0_4.length c0_4] 30 (0, 0)) (by (with_reducible repeat (first | refine zE ?_ _ | refine zI ?_ | refine zD ?_ _)); exact BK205.out) hb)
    have n1_ := zC.mk (zL (by repeat (first | (with_reducible first | exact HB.out | apply zG | apply zA | apply zF | refine zH ?_ GE205.out) | exact HB.out)) hb)
    clear BK205
    clear HB
    have BK205 := n0_
    have HB := n1_
    clear n0_ n1_
    (try clear hb)
    refine hK.out _ _ ⟨zB BK205.out 0, zB BK205.out 1, zB BK205.out 2, zB BK205.out 3, zB BK205.out 4⟩ (fun hHeld => ?_)
    clear hK K
    refine yA (a' := ?_) ?_ ?_
    rotate_left
    ·
     show Act.put _ (some 9) _ = _
     go_simp
     rfl
    refine zT (i := 7) (N := some 10) (v := ?_) (a' := ?_) #[true, true, true, true, true, true, true, true, false, false, false, false, false, false, false, false, false, false, false, false, false, false, false] rfl rfl (zN HT_.out (by kernel_rfl)) (fun _ _ _ h => h) (Or.inl ⟨by rfl, ?_⟩) ?_ ?_
    rotate_left
    ·
     intro w'
     go_simp
     with_reducible rfl
    rotate_left
    ·
     go_simp
     rfl
    refine zT (i := 8) (N := some 11) (v := ?_) (a' := ?_) #[true, true, true, true, true, true, true, true, true, false, false, false, false, false, false, false, false, false, false, false, false, false, false] rfl rfl (zN HT_.out (by kernel_rfl)) (fun _ _ _ h => h) (Or.inl ⟨by rfl, ?_⟩) ?_ ?_
    rotate_left
    ·
     intro w'
     go_simp
     with_reducible rfl
    rotate_left
    ·
     go_simp
     rfl
    refine zT (i := 9) (N := some 12) (v := ?_) (a' := ?_) #[true, true, true, true, true, true, true, true, true, true, false, false, false, false, false, false, false, false, false, false, false, false, false] rfl rfl (zN HT_.out (by kernel_rfl)) (fun _ _ _ h => h) (Or.inl ⟨by rfl, ?_⟩) ?_ ?_
    rotate_left
    ·
     intro w'
     go_simp
     with_reducible rfl
    rotate_left
    ·
     go_simp
     rfl
    refine zT (i := 12) (N := some 15) (v := ?_) (a' := ?_) #[true, true, true, true, true, true, true, true, true, true, false, false, true, false, false, false, false, false, false, false, false, false, false] rfl rfl (zN HT_.out (by kernel_rfl)) (fun _ _ _ h => h) (Or.inl ⟨by rfl, ?_⟩) ?_ ?_
    rotate_left
    ·
     intro w'
     go_simp
     with_reducible rfl
    rotate_left
    ·
     go_simp
     rfl
    refine yC (i := 10) (N := some 13) (v := ?_) (a' := ?_) #[true, true, true, true, true, true, true, true, true, true, true, false, true, false, false, false, false, false, false, false, false, false, false] rfl rfl (zY HT_.out HW_.out (by kernel_rfl)) (fun _ _ _ h => h) (Or.inl ⟨by rfl, ?_⟩) hHeld ?_ ?_
    rotate_left
    ·
     rintro w' ⟨s0, s1, s2, s3, s4⟩
     go_simp
     with_reducible rfl
    rotate_left
    ·
     go_simp
     rfl
    refine zT (i := 11) (N := some 14) (v := ?_) (a' := ?_) #[true, true, true, true, true, true, true, true, true, true, true, true, true, false, false, false, false, false, false, false, false, false, false] rfl rfl (zN HT_.out (by kernel_rfl)) (fun _ _ _ h => h) (Or.inl ⟨by rfl, ?_⟩) ?_ ?_
    rotate_left
    ·
     intro w'
     go_simp
     with_reducible rfl
    rotate_left
    ·
     go_simp
     rfl
    refine yC (i := 13) (N := some 16) (v := ?_) (a' := ?_) #[true, true, true, true, true, true, true, true, true, true, true, true, true, true, false, false, false, false, false, false, false, false, false] rfl rfl (zY HT_.out HW_.out (by kernel_rfl)) (fun _ _ _ h => h) (Or.inl ⟨by rfl, ?_⟩) hHeld ?_ ?_
    rotate_left
    ·
     rintro w' ⟨s0, s1, s2, s3, s4⟩
     go_simp
     with_reducible rfl
    rotate_left
    ·
     go_simp
     rfl
    refine one_ (i := 14) (N := some 17) #[true, true, true, true, true, true, true, true, true, true, true, true, true, true, true, false, false, false, false, false, false, false, false] rfl rfl (yB HT_.out (by kernel_rfl)) (by decide) (fun K hK => ?_)
    refine yD Try.func97 (by kernel_rfl) rfl #[.agg #[.int .i64 a0_1, .int .i64 a0_2, .int .i64 a0_3]] (by rfl) rfl rfl (by (try simp only [List.map_toArray, List.map_cons, List.map_nil]); first | done | rfl) ?_
    with_reducible refine (xK.calls a0_1 a0_2 a0_3 t208 _ A6.out).mono ?_
    rintro e w17 ⟨rfl, hb⟩
    refine ⟨_, rfl, ?_⟩
    have n0_ := zC.mk (zK (g := gb205) (o := .cells #[.int .i64 a0_0, .int .i64 a0_1, .int .i64 a0_2, .int .i64 a0_3, .slice A0_4 l0_4.length c0_4] 30 (0, 0)) (by (with_reducible repeat (first | refine zE ?_ _ | refine zI ?_ | refine zD ?_ _)); exact BK205.out) hb)
    have n1_ := zC.mk (zL (by repeat (first | (with_reducible first | exact HB.out | apply zG | apply zA | apply zF | refine zH ?_ GE205.out) | exact HB.out)) hb)
    clear BK205
    clear HB
    have BK205 := n0_
    have HB := n1_
    clear n0_ n1_
    (try clear hb)
    refine hK.out _ _ ⟨zB BK205.out 0, zB BK205.out 1, zB BK205.out 2, zB BK205.out 3, zB BK205.out 4⟩ (fun hHeld => ?_)
    clear hK K
    refine yA (a' := ?_) ?_ ?_
    rotate_left
    ·
     show Act.put _ (some 17) _ = _
     go_simp
     rfl
    refine zT (i := 15) (N := some 18) (v := ?_) (a' := ?_) #[true, true, true, true, true, true, true, true, true, true, true, true, true, true, true, true, false, false, false, false, false, false, false] rfl rfl (zN HT_.out (by kernel_rfl)) (fun _ _ _ h => h) (Or.inl ⟨by rfl, ?_⟩) ?_ ?_
    rotate_left
    ·
     intro w'
     go_simp
     with_reducible rfl
    rotate_left
    ·
     go_simp
     rfl
    refine zT (i := 16) (N := some 19) (v := ?_) (a' := ?_) #[true, true, true, true, true, true, true, true, true, true, true, true, true, true, true, true, true, false, false, false, false, false, false] rfl rfl (zN HT_.out (by kernel_rfl)) (fun _ _ _ h => h) (Or.inl ⟨by rfl, ?_⟩) ?_ ?_
    rotate_left
    ·
     intro w'
     go_simp
     with_reducible rfl
    rotate_left
    ·
     go_simp
     rfl
    refine zT (i := 17) (N := some 20) (v := ?_) (a' := ?_) #[true, true, true, true, true, true, true, true, true, true, true, true, true, true, true, true, true, true, false, false, false, false, false] rfl rfl (zN HT_.out (by kernel_rfl)) (fun _ _ _ h => h) (Or.inl ⟨by rfl, ?_⟩) ?_ ?_
    rotate_left
    ·
     intro w'
     go_simp
     with_reducible rfl
    rotate_left
    ·
     go_simp
     rfl
    refine zT (i := 18) (N := some 21) (v := undef) (a' := ?_) #[true, true, true, true, true, true, true, true, true, true, true, true, true, true, true, true, true, true, true, false, false, false, false] rfl rfl (zN HT_.out (by kernel_rfl)) (fun _ _ _ h => h) (Or.inr ⟨by rfl, rfl⟩) ?_ ?_
    rotate_left
    ·
     go_simp
     rfl
    refine zT (i := 19) (N := some 22) (v := undef) (a' := ?_) #[true, true, true, true, true, true, true, true, true, true, true, true, true, true, true, true, true, true, true, true, false, false, false] rfl rfl (zN HT_.out (by kernel_rfl)) (fun _ _ _ h => h) (Or.inr ⟨by rfl, rfl⟩) ?_ ?_
    rotate_left
    ·
     go_simp
     rfl
    refine zT (i := 20) (N := some 23) (v := undef) (a' := ?_) #[true, true, true, true, true, true, true, true, true, true, true, true, true, true, true, true, true, true, true, true, true, false, false] rfl rfl (zN HT_.out (by kernel_rfl)) (fun _ _ _ h => h) (Or.inr ⟨by rfl, rfl⟩) ?_ ?_
    rotate_left
    ·
     go_simp
     rfl
    refine zT (i := 21) (N := some 24) (v := ?_) (a' := ?_) #[true, true, true, true, true, true, true, true, true, true, true, true, true, true, true, true, true, true, true, true, true, true, false] rfl rfl (zN HT_.out (by kernel_rfl)) (fun _ _ _ h => h) (Or.inl ⟨by rfl, ?_⟩) ?_ ?_
    rotate_left
    ·
     intro w'
     go_simp
     with_reducible rfl
    rotate_left
    ·
     go_simp
     rfl
    refine zT (i := 22) (N := some 2) (v := ?_) (a' := ?_) #[true, true, true, true, true, true, true, true, true, true, true, true, true, true, true, true, true, true, true, true, true, true, true] rfl rfl (zN HT_.out (by kernel_rfl)) (fun _ _ _ h => h) (Or.inl ⟨by rfl, ?_⟩) ?_ ?_
    rotate_left
    ·
     intro w'
     go_simp
     with_reducible rfl
    rotate_left
    ·
     go_simp
     rfl
    refine done_ (done_of HT_.out (by kernel_rfl)) ?_
    try go_wp2
    go_ret
    exact ⟨by first | rfl | (simp [*, errW_none, errW_some] <;> rfl), by repeat (first | (with_reducible first | exact HB.out | apply zG | apply zA | apply zF | refine zH ?_ GE205.out) | exact HB.out)⟩
  ·
   replace c5 := Bool.eq_false_iff.mpr c5
   subst c5
   have H1 : (some false) = some r := by rw [if_neg (show ¬ (false = true) by decide)] at H; exact H
   clear H
   have H := H1
   clear H1
   obtain rfl := Option.some.inj H
   go_enter Try.func64, Try.ntmps64
   try go_wp2_with (first | ((with_reducible refine zP (N := 1) rfl ?_); (try (refine gate_guard (by rfl) ?_; dsimp only)); refine zO ?hg (N := 1) ?hd (cs := #[.int .i64 a0_0, .int .i64 a0_1, .int .i64 a0_2, .int .i64 a0_3, .slice A0_4 l0_4.length c0_4]) (t := 30) ?hr ?_; (case hd => rfl); (case hg => rfl); (case hr => first | (go_simp; done) | (go_simp; rfl)); intro gb205 hg w18 hbox hb; have n0_ := zC.mk (zL (by repeat (first | (with_reducible first | exact HB.out | apply zG | apply zA | apply zF) | exact HB.out)) hb); have n1_ := zC.mk (hbox); have n2_ := zC.mk ((by rw [hg]; exact (zM (by repeat (first | (with_reducible first | exact HB.out | apply zG | apply zA | apply zF) | exact HB.out))) : w.heap.size ≤ gb205)); have n3_ := n2_; clear HB; have HB := n0_; have BK205 := n1_; have GW205 := n2_; have GE205 := n3_; clear n0_ n1_ n2_ n3_; clear hb hbox hg))
   have n0_ := zC.mk (zI BK205.out)
   have n1_ := zC.mk (zF HB.out)
   clear BK205
   clear HB
   have BK205 := n0_
   have HB := n1_
   clear n0_ n1_
   refine start_ (n := 23) (S := fun w' => w'.cell? ⟨gb205, 0, none⟩ = some (.int .i64 a0_0) ∧ w'.cell? ⟨gb205, 1, none⟩ = some (.int .i64 a0_1) ∧ w'.cell? ⟨gb205, 2, none⟩ = some (.int .i64 a0_2) ∧ w'.cell? ⟨gb205, 3, none⟩ = some (.int .i64 a0_3) ∧ w'.cell? ⟨gb205, 4, none⟩ = some (.slice A0_4 l0_4.length c0_4)) (ds := []) #[false, false, false, false, false, false, false, false, false, false, false, false, false, false, false, false, false, false, false, false, false, false, false] (by kernel_rfl) rfl rfl ⟨zB BK205.out 0, zB BK205.out 1, zB BK205.out 2, zB BK205.out 3, zB BK205.out 4⟩ (fun hHeld => ?_); refine yE xO.tab1 xO.bits1 (fun HT_ HW_ => ?_)
   generalize w18.drew = w19 at BK205 HB hHeld ⊢
   refine zT (i := 0) (N := some 3) (v := ?_) (a' := ?_) #[true, false, false, false, false, false, false, false, false, false, false, false, false, false, false, false, false, false, false, false, false, false, false] rfl rfl (zN HT_.out (by kernel_rfl)) (fun _ _ _ h => h) (Or.inl ⟨by rfl, ?_⟩) ?_ ?_
   rotate_left
   ·
    intro w'
    go_simp
    with_reducible rfl
   rotate_left
   ·
    go_simp
    rfl
   refine yC (i := 1) (N := some 4) (v := ?_) (a' := ?_) #[true, true, false, false, false, false, false, false, false, false, false, false, false, false, false, false, false, false, false, false, false, false, false] rfl rfl (zY HT_.out HW_.out (by kernel_rfl)) (fun _ _ _ h => h) (Or.inl ⟨by rfl, ?_⟩) hHeld ?_ ?_
   rotate_left
   ·
    rintro w' ⟨s0, s1, s2, s3, s4⟩
    go_simp
    with_reducible rfl
   rotate_left
   ·
    go_simp
    rfl
   refine one_ (i := 2) (N := some 5) #[true, true, true, false, false, false, false, false, false, false, false, false, false, false, false, false, false, false, false, false, false, false, false] rfl rfl (yB HT_.out (by kernel_rfl)) (by decide) (fun K hK => ?_)
   refine yD Try.func118 (by kernel_rfl) rfl #[.int .i64 a0_0] (by rfl) rfl rfl (by (try simp only [List.map_toArray, List.map_cons, List.map_nil]); first | done | rfl) ?_
   with_reducible refine (wL.calls a0_0 true _ A2.out).mono ?_
   rintro e w' ⟨rfl, ⟨nd, rfl⟩⟩
   refine ⟨_, rfl, ?_⟩
   refine hK.out _ _ ⟨zB BK205.out 0, zB BK205.out 1, zB BK205.out 2, zB BK205.out 3, zB BK205.out 4⟩ (fun hHeld => ?_)
   clear hK K
   refine yA (a' := ?_) ?_ ?_
   rotate_left
   ·
    show Act.put _ (some 5) _ = _
    go_simp
    rfl
   refine zT (i := 3) (N := some 6) (v := ?_) (a' := ?_) #[true, true, true, true, false, false, false, false, false, false, false, false, false, false, false, false, false, false, false, false, false, false, false] rfl rfl (zN HT_.out (by kernel_rfl)) (fun _ _ _ h => h) (Or.inl ⟨by rfl, ?_⟩) ?_ ?_
   rotate_left
   ·
    intro w'
    go_simp
    with_reducible rfl
   rotate_left
   ·
    go_simp
    rfl
   refine zT (i := 4) (N := some 7) (v := ?_) (a' := ?_) #[true, true, true, true, true, false, false, false, false, false, false, false, false, false, false, false, false, false, false, false, false, false, false] rfl rfl (zN HT_.out (by kernel_rfl)) (fun _ _ _ h => h) (Or.inl ⟨by rfl, ?_⟩) ?_ ?_
   rotate_left
   ·
    intro w'
    go_simp
    with_reducible rfl
   rotate_left
   ·
    go_simp
    rfl
   refine yC (i := 5) (N := some 8) (v := ?_) (a' := ?_) #[true, true, true, true, true, true, false, false, false, false, false, false, false, false, false, false, false, false, false, false, false, false, false] rfl rfl (zY HT_.out HW_.out (by kernel_rfl)) (fun _ _ _ h => h) (Or.inl ⟨by rfl, ?_⟩) hHeld ?_ ?_
   rotate_left
   ·
    rintro w' ⟨s0, s1, s2, s3, s4⟩
    go_simp
    with_reducible rfl
   rotate_left
   ·
    go_simp
    rfl
   refine one_ (i := 6) (N := some 9) #[true, true, true, true, true, true, true, false, false, false, false, false, false, false, false, false, false, false, false, false, false, false, false] rfl rfl (yB HT_.out (by kernel_rfl)) (by decide) (fun K hK => ?_)
   refine yD Try.func119 (by kernel_rfl) rfl #[.agg #[.int .i64 a0_1, .int .i64 a0_2, .int .i64 a0_3]] (by rfl) rfl rfl (by (try simp only [List.map_toArray, List.map_cons, List.map_nil]); first | done | rfl) ?_
   with_reducible refine (wD.calls a0_1 a0_2 a0_3 false _ A4.out).mono ?_
   rintro e w20 ⟨rfl, hb⟩
   refine ⟨_, rfl, ?_⟩
   have n0_ := zC.mk (zK (g := gb205) (o := .cells #[.int .i64 a0_0, .int .i64 a0_1, .int .i64 a0_2, .int .i64 a0_3, .slice A0_4 l0_4.length c0_4] 30 (0, 0)) (by (with_reducible repeat (first | refine zE ?_ _ | refine zI ?_ | refine zD ?_ _)); exact BK205.out) hb)
   have n1_ := zC.mk (zL (by repeat (first | (with_reducible first | exact HB.out | apply zG | apply zA | apply zF | refine zH ?_ GE205.out) | exact HB.out)) hb)
   clear BK205
   clear HB
   have BK205 := n0_
   have HB := n1_
   clear n0_ n1_
   (try clear hb)
   refine hK.out _ _ ⟨zB BK205.out 0, zB BK205.out 1, zB BK205.out 2, zB BK205.out 3, zB BK205.out 4⟩ (fun hHeld => ?_)
   clear hK K
   refine yA (a' := ?_) ?_ ?_
   rotate_left
   ·
    show Act.put _ (some 9) _ = _
    go_simp
    rfl
   refine zT (i := 7) (N := some 10) (v := ?_) (a' := ?_) #[true, true, true, true, true, true, true, true, false, false, false, false, false, false, false, false, false, false, false, false, false, false, false] rfl rfl (zN HT_.out (by kernel_rfl)) (fun _ _ _ h => h) (Or.inl ⟨by rfl, ?_⟩) ?_ ?_
   rotate_left
   ·
    intro w'
    go_simp
    with_reducible rfl
   rotate_left
   ·
    go_simp
    rfl
   refine zT (i := 8) (N := some 11) (v := ?_) (a' := ?_) #[true, true, true, true, true, true, true, true, true, false, false, false, false, false, false, false, false, false, false, false, false, false, false] rfl rfl (zN HT_.out (by kernel_rfl)) (fun _ _ _ h => h) (Or.inl ⟨by rfl, ?_⟩) ?_ ?_
   rotate_left
   ·
    intro w'
    go_simp
    with_reducible rfl
   rotate_left
   ·
    go_simp
    rfl
   refine zT (i := 9) (N := some 12) (v := undef) (a' := ?_) #[true, true, true, true, true, true, true, true, true, true, false, false, false, false, false, false, false, false, false, false, false, false, false] rfl rfl (zN HT_.out (by kernel_rfl)) (fun _ _ _ h => h) (Or.inr ⟨by rfl, rfl⟩) ?_ ?_
   rotate_left
   ·
    go_simp
    rfl
   refine zT (i := 10) (N := some 13) (v := undef) (a' := ?_) #[true, true, true, true, true, true, true, true, true, true, true, false, false, false, false, false, false, false, false, false, false, false, false] rfl rfl (zN HT_.out (by kernel_rfl)) (fun _ _ _ h => h) (Or.inr ⟨by rfl, rfl⟩) ?_ ?_
   rotate_left
   ·
    go_simp
    rfl
   refine zT (i := 11) (N := some 14) (v := undef) (a' := ?_) #[true, true, true, true, true, true, true, true, true, true, true, true, false, false, false, false, false, false, false, false, false, false, false] rfl rfl (zN HT_.out (by kernel_rfl)) (fun _ _ _ h => h) (Or.inr ⟨by rfl, rfl⟩) ?_ ?_
   rotate_left
   ·
    go_simp
    rfl
   refine zT (i := 12) (N := some 15) (v := undef) (a' := ?_) #[true, true, true, true, true, true, true, true, true, true, true, true, true, false, false, false, false, false, false, false, false, false, false] rfl rfl (zN HT_.out (by kernel_rfl)) (fun _ _ _ h => h) (Or.inr ⟨by rfl, rfl⟩) ?_ ?_
   rotate_left
   ·
    go_simp
    rfl
   refine zT (i := 13) (N := some 16) (v := undef) (a' := ?_) #[true, true, true, true, true, true, true, true, true, true, true, true, true, true, false, false, false, false, false, false, false, false, false] rfl rfl (zN HT_.out (by kernel_rfl)) (fun _ _ _ h => h) (Or.inr ⟨by rfl, rfl⟩) ?_ ?_
   rotate_left
   ·
    go_simp
    rfl
   refine zT (i := 14) (N := some 17) (v := undef) (a' := ?_) #[true, true, true, true, true, true, true, true, true, true, true, true, true, true, true, false, false, false, false, false, false, false, false] rfl rfl (zN HT_.out (by kernel_rfl)) (fun _ _ _ h => h) (Or.inr ⟨by rfl, rfl⟩) ?_ ?_
   rotate_left
   ·
    go_simp
    rfl
   refine zT (i := 15) (N := some 18) (v := undef) (a' := ?_) #[true, true, true, true, true, true, true, true, true, true, true, true, true, true, true, true, false, false, false, false, false, false, false] rfl rfl (zN HT_.out (by kernel_rfl)) (fun _ _ _ h => h) (Or.inr ⟨by rfl, rfl⟩) ?_ ?_
   rotate_left
   ·
    go_simp
    rfl
   refine zT (i := 16) (N := some 19) (v := ?_) (a' := ?_) #[true, true, true, true, true, true, true, true, true, true, true, true, true, true, true, true, true, false, false, false, false, false, false] rfl rfl (zN HT_.out (by kernel_rfl)) (fun _ _ _ h => h) (Or.inl ⟨by rfl, ?_⟩) ?_ ?_
   rotate_left
   ·
    intro w'
    go_simp
    with_reducible rfl
   rotate_left
   ·
    go_simp
    rfl
   refine zT (i := 17) (N := some 20) (v := ?_) (a' := ?_) #[true, true, true, true, true, true, true, true, true, true, true, true, true, true, true, true, true, true, false, false, false, false, false] rfl rfl (zN HT_.out (by kernel_rfl)) (fun _ _ _ h => h) (Or.inl ⟨by rfl, ?_⟩) ?_ ?_
   rotate_left
   ·
    intro w'
    go_simp
    with_reducible rfl
   rotate_left
   ·
    go_simp
    rfl
   refine zT (i := 18) (N := some 21) (v := undef) (a' := ?_) #[true, true, true, true, true, true, true, true, true, true, true, true, true, true, true, true, true, true, true, false, false, false, false] rfl rfl (zN HT_.out (by kernel_rfl)) (fun _ _ _ h => h) (Or.inr ⟨by rfl, rfl⟩) ?_ ?_
   rotate_left
   ·
    go_simp
    rfl
   refine zT (i := 19) (N := some 22) (v := undef) (a' := ?_) #[true, true, true, true, true, true, true, true, true, true, true, true, true, true, true, true, true, true, true, true, false, false, false] rfl rfl (zN HT_.out (by kernel_rfl)) (fun _ _ _ h => h) (Or.inr ⟨by rfl, rfl⟩) ?_ ?_
   rotate_left
   ·
    go_simp
    rfl
   refine zT (i := 20) (N := some 23) (v := undef) (a' := ?_) #[true, true, true, true, true, true, true, true, true, true, true, true, true, true, true, true, true, true, true, true, true, false, false] rfl rfl (zN HT_.out (by kernel_rfl)) (fun _ _ _ h => h) (Or.inr ⟨by rfl, rfl⟩) ?_ ?_
   rotate_left
   ·
    go_simp
    rfl
   refine zT (i := 21) (N := some 24) (v := ?_) (a' := ?_) #[true, true, true, true, true, true, true, true, true, true, true, true, true, true, true, true, true, true, true, true, true, true, false] rfl rfl (zN HT_.out (by kernel_rfl)) (fun _ _ _ h => h) (Or.inl ⟨by rfl, ?_⟩) ?_ ?_
   rotate_left
   ·
    intro w'
    go_simp
    with_reducible rfl
   rotate_left
   ·
    go_simp
    rfl
   refine zT (i := 22) (N := some 2) (v := ?_) (a' := ?_) #[true, true, true, true, true, true, true, true, true, true, true, true, true, true, true, true, true, true, true, true, true, true, true] rfl rfl (zN HT_.out (by kernel_rfl)) (fun _ _ _ h => h) (Or.inl ⟨by rfl, ?_⟩) ?_ ?_
   rotate_left
   ·
    intro w'
    go_simp
    with_reducible rfl
   rotate_left
   ·
    go_simp
    rfl
   refine done_ (done_of HT_.out (by kernel_rfl)) ?_
   try go_wp2
   go_ret
   exact ⟨by first | rfl | (simp [*, errW_none, errW_some] <;> rfl), by repeat (first | (with_reducible first | exact HB.out | apply zG | apply zA | apply zF | refine zH ?_ GE205.out) | exact HB.out)⟩
 ·
  replace c3 := Bool.eq_false_iff.mpr c3
  subst c3
  have H1 : (some false) = some r := by rw [if_neg (show ¬ (false = true) by decide)] at H; exact H
  clear H
  have H := H1
  clear H1
  obtain rfl := Option.some.inj H
  go_enter Try.func64, Try.ntmps64
  try go_wp2_with (first | ((with_reducible refine zP (N := 1) rfl ?_); (try (refine gate_guard (by rfl) ?_; dsimp only)); refine zO ?hg (N := 1) ?hd (cs := #[.int .i64 a0_0, .int .i64 a0_1, .int .i64 a0_2, .int .i64 a0_3, .slice A0_4 l0_4.length c0_4]) (t := 30) ?hr ?_; (case hd => rfl); (case hg => rfl); (case hr => first | (go_simp; done) | (go_simp; rfl)); intro gb205 hg w21 hbox hb; have n0_ := zC.mk (zL (by repeat (first | (with_reducible first | exact HB.out | apply zG | apply zA | apply zF) | exact HB.out)) hb); have n1_ := zC.mk (hbox); have n2_ := zC.mk ((by rw [hg]; exact (zM (by repeat (first | (with_reducible first | exact HB.out | apply zG | apply zA | apply zF) | exact HB.out))) : w.heap.size ≤ gb205)); have n3_ := n2_; clear HB; have HB := n0_; have BK205 := n1_; have GW205 := n2_; have GE205 := n3_; clear n0_ n1_ n2_ n3_; clear hb hbox hg))
  have n0_ := zC.mk (zI BK205.out)
  have n1_ := zC.mk (zF HB.out)
  clear BK205
  clear HB
  have BK205 := n0_
  have HB := n1_
  clear n0_ n1_
  refine start_ (n := 23) (S := fun w' => w'.cell? ⟨gb205, 0, none⟩ = some (.int .i64 a0_0) ∧ w'.cell? ⟨gb205, 1, none⟩ = some (.int .i64 a0_1) ∧ w'.cell? ⟨gb205, 2, none⟩ = some (.int .i64 a0_2) ∧ w'.cell? ⟨gb205, 3, none⟩ = some (.int .i64 a0_3) ∧ w'.cell? ⟨gb205, 4, none⟩ = some (.slice A0_4 l0_4.length c0_4)) (ds := []) #[false, false, false, false, false, false, false, false, false, false, false, false, false, false, false, false, false, false, false, false, false, false, false] (by kernel_rfl) rfl rfl ⟨zB BK205.out 0, zB BK205.out 1, zB BK205.out 2, zB BK205.out 3, zB BK205.out 4⟩ (fun hHeld => ?_); refine yE xO.tab1 xO.bits1 (fun HT_ HW_ => ?_)
  generalize w21.drew = w22 at BK205 HB hHeld ⊢
  refine zT (i := 0) (N := some 3) (v := ?_) (a' := ?_) #[true, false, false, false, false, false, false, false, false, false, false, false, false, false, false, false, false, false, false, false, false, false, false] rfl rfl (zN HT_.out (by kernel_rfl)) (fun _ _ _ h => h) (Or.inl ⟨by rfl, ?_⟩) ?_ ?_
  rotate_left
  ·
   intro w'
   go_simp
   with_reducible rfl
  rotate_left
  ·
   go_simp
   rfl
  refine yC (i := 1) (N := some 4) (v := ?_) (a' := ?_) #[true, true, false, false, false, false, false, false, false, false, false, false, false, false, false, false, false, false, false, false, false, false, false] rfl rfl (zY HT_.out HW_.out (by kernel_rfl)) (fun _ _ _ h => h) (Or.inl ⟨by rfl, ?_⟩) hHeld ?_ ?_
  rotate_left
  ·
   rintro w' ⟨s0, s1, s2, s3, s4⟩
   go_simp
   with_reducible rfl
  rotate_left
  ·
   go_simp
   rfl
  refine one_ (i := 2) (N := some 5) #[true, true, true, false, false, false, false, false, false, false, false, false, false, false, false, false, false, false, false, false, false, false, false] rfl rfl (yB HT_.out (by kernel_rfl)) (by decide) (fun K hK => ?_)
  refine yD Try.func118 (by kernel_rfl) rfl #[.int .i64 a0_0] (by rfl) rfl rfl (by (try simp only [List.map_toArray, List.map_cons, List.map_nil]); first | done | rfl) ?_
  with_reducible refine (wL.calls a0_0 false _ A2.out).mono ?_
  rintro e w' ⟨rfl, ⟨nd, rfl⟩⟩
  refine ⟨_, rfl, ?_⟩
  refine hK.out _ _ ⟨zB BK205.out 0, zB BK205.out 1, zB BK205.out 2, zB BK205.out 3, zB BK205.out 4⟩ (fun hHeld => ?_)
  clear hK K
  refine yA (a' := ?_) ?_ ?_
  rotate_left
  ·
   show Act.put _ (some 5) _ = _
   go_simp
   rfl
  refine zT (i := 3) (N := some 6) (v := ?_) (a' := ?_) #[true, true, true, true, false, false, false, false, false, false, false, false, false, false, false, false, false, false, false, false, false, false, false] rfl rfl (zN HT_.out (by kernel_rfl)) (fun _ _ _ h => h) (Or.inl ⟨by rfl, ?_⟩) ?_ ?_
  rotate_left
  ·
   intro w'
   go_simp
   with_reducible rfl
  rotate_left
  ·
   go_simp
   rfl
  refine zT (i := 4) (N := some 7) (v := undef) (a' := ?_) #[true, true, true, true, true, false, false, false, false, false, false, false, false, false, false, false, false, false, false, false, false, false, false] rfl rfl (zN HT_.out (by kernel_rfl)) (fun _ _ _ h => h) (Or.inr ⟨by rfl, rfl⟩) ?_ ?_
  rotate_left
  ·
   go_simp
   rfl
  refine zT (i := 5) (N := some 8) (v := undef) (a' := ?_) #[true, true, true, true, true, true, false, false, false, false, false, false, false, false, false, false, false, false, false, false, false, false, false] rfl rfl (zN HT_.out (by kernel_rfl)) (fun _ _ _ h => h) (Or.inr ⟨by rfl, rfl⟩) ?_ ?_
  rotate_left
  ·
   go_simp
   rfl
  refine zT (i := 6) (N := some 9) (v := undef) (a' := ?_) #[true, true, true, true, true, true, true, false, false, false, false, false, false, false, false, false, false, false, false, false, false, false, false] rfl rfl (zN HT_.out (by kernel_rfl)) (fun _ _ _ h => h) (Or.inr ⟨by rfl, rfl⟩) ?_ ?_
  rotate_left
  ·
   go_simp
   rfl
  refine zT (i := 7) (N := some 10) (v := ?_) (a' := ?_) #[true, true, true, true, true, true, true, true, false, false, false, false, false, false, false, false, false, false, false, false, false, false, false] rfl rfl (zN HT_.out (by kernel_rfl)) (fun _ _ _ h => h) (Or.inl ⟨by rfl, ?_⟩) ?_ ?_
  rotate_left
  ·
   intro w'
   go_simp
   with_reducible rfl
  rotate_left
  ·
   go_simp
   rfl
  refine zT (i := 8) (N := some 11) (v := ?_) (a' := ?_) #[true, true, true, true, true, true, true, true, true, false, false, false, false, false, false, false, false, false, false, false, false, false, false] rfl rfl (zN HT_.out (by kernel_rfl)) (fun _ _ _ h => h) (Or.inl ⟨by rfl, ?_⟩) ?_ ?_
  rotate_left
  ·
   intro w'
   go_simp
   with_reducible rfl
  rotate_left
  ·
   go_simp
   rfl
  refine zT (i := 9) (N := some 12) (v := undef) (a' := ?_) #[true, true, true, true, true, true, true, true, true, true, false, false, false, false, false, false, false, false, false, false, false, false, false] rfl rfl (zN HT_.out (by kernel_rfl)) (fun _ _ _ h => h) (Or.inr ⟨by rfl, rfl⟩) ?_ ?_
  rotate_left
  ·
   go_simp
   rfl
  refine zT (i := 10) (N := some 13) (v := undef) (a' := ?_) #[true, true, true, true, true, true, true, true, true, true, true, false, false, false, false, false, false, false, false, false, false, false, false] rfl rfl (zN HT_.out (by kernel_rfl)) (fun _ _ _ h => h) (Or.inr ⟨by rfl, rfl⟩) ?_ ?_
  rotate_left
  ·
   go_simp
   rfl
  refine zT (i := 11) (N := some 14) (v := undef) (a' := ?_) #[true, true, true, true, true, true, true, true, true, true, true, true, false, false, false, false, false, false, false, false, false, false, false] rfl rfl (zN HT_.out (by kernel_rfl)) (fun _ _ _ h => h) (Or.inr ⟨by rfl, rfl⟩) ?_ ?_
  rotate_left
  ·
   go_simp
   rfl
  refine zT (i := 12) (N := some 15) (v := undef) (a' := ?_) #[true, true, true, true, true, true, true, true, true, true, true, true, true, false, false, false, false, false, false, false, false, false, false] rfl rfl (zN HT_.out (by kernel_rfl)) (fun _ _ _ h => h) (Or.inr ⟨by rfl, rfl⟩) ?_ ?_
  rotate_left
  ·
   go_simp
   rfl
  refine zT (i := 13) (N := some 16) (v := undef) (a' := ?_) #[true, true, true, true, true, true, true, true, true, true, true, true, true, true, false, false, false, false, false, false, false, false, false] rfl rfl (zN HT_.out (by kernel_rfl)) (fun _ _ _ h => h) (Or.inr ⟨by rfl, rfl⟩) ?_ ?_
  rotate_left
  ·
   go_simp
   rfl
  refine zT (i := 14) (N := some 17) (v := undef) (a' := ?_) #[true, true, true, true, true, true, true, true, true, true, true, true, true, true, true, false, false, false, false, false, false, false, false] rfl rfl (zN HT_.out (by kernel_rfl)) (fun _ _ _ h => h) (Or.inr ⟨by rfl, rfl⟩) ?_ ?_
  rotate_left
  ·
   go_simp
   rfl
  refine zT (i := 15) (N := some 18) (v := undef) (a' := ?_) #[true, true, true, true, true, true, true, true, true, true, true, true, true, true, true, true, false, false, false, false, false, false, false] rfl rfl (zN HT_.out (by kernel_rfl)) (fun _ _ _ h => h) (Or.inr ⟨by rfl, rfl⟩) ?_ ?_
  rotate_left
  ·
   go_simp
   rfl
  refine zT (i := 16) (N := some 19) (v := ?_) (a' := ?_) #[true, true, true, true, true, true, true, true, true, true, true, true, true, true, true, true, true, false, false, false, false, false, false] rfl rfl (zN HT_.out (by kernel_rfl)) (fun _ _ _ h => h) (Or.inl ⟨by rfl, ?_⟩) ?_ ?_
  rotate_left
  ·
   intro w'
   go_simp
   with_reducible rfl
  rotate_left
  ·
   go_simp
   rfl
  refine zT (i := 17) (N := some 20) (v := ?_) (a' := ?_) #[true, true, true, true, true, true, true, true, true, true, true, true, true, true, true, true, true, true, false, false, false, false, false] rfl rfl (zN HT_.out (by kernel_rfl)) (fun _ _ _ h => h) (Or.inl ⟨by rfl, ?_⟩) ?_ ?_
  rotate_left
  ·
   intro w'
   go_simp
   with_reducible rfl
  rotate_left
  ·
   go_simp
   rfl
  refine zT (i := 18) (N := some 21) (v := undef) (a' := ?_) #[true, true, true, true, true, true, true, true, true, true, true, true, true, true, true, true, true, true, true, false, false, false, false] rfl rfl (zN HT_.out (by kernel_rfl)) (fun _ _ _ h => h) (Or.inr ⟨by rfl, rfl⟩) ?_ ?_
  rotate_left
  ·
   go_simp
   rfl
  refine zT (i := 19) (N := some 22) (v := undef) (a' := ?_) #[true, true, true, true, true, true, true, true, true, true, true, true, true, true, true, true, true, true, true, true, false, false, false] rfl rfl (zN HT_.out (by kernel_rfl)) (fun _ _ _ h => h) (Or.inr ⟨by rfl, rfl⟩) ?_ ?_
  rotate_left
  ·
   go_simp
   rfl
  refine zT (i := 20) (N := some 23) (v := undef) (a' := ?_) #[true, true, true, true, true, true, true, true, true, true, true, true, true, true, true, true, true, true, true, true, true, false, false] rfl rfl (zN HT_.out (by kernel_rfl)) (fun _ _ _ h => h) (Or.inr ⟨by rfl, rfl⟩) ?_ ?_
  rotate_left
  ·
   go_simp
   rfl
  refine zT (i := 21) (N := some 24) (v := ?_) (a' := ?_) #[true, true, true, true, true, true, true, true, true, true, true, true, true, true, true, true, true, true, true, true, true, true, false] rfl rfl (zN HT_.out (by kernel_rfl)) (fun _ _ _ h => h) (Or.inl ⟨by rfl, ?_⟩) ?_ ?_
  rotate_left
  ·
   intro w'
   go_simp
   with_reducible rfl
  rotate_left
  ·
   go_simp
   rfl
  refine zT (i := 22) (N := some 2) (v := ?_) (a' := ?_) #[true, true, true, true, true, true, true, true, true, true, true, true, true, true, true, true, true, true, true, true, true, true, true] rfl rfl (zN HT_.out (by kernel_rfl)) (fun _ _ _ h => h) (Or.inl ⟨by rfl, ?_⟩) ?_ ?_
  rotate_left
  ·
   intro w'
   go_simp
   with_reducible rfl
  rotate_left
  ·
   go_simp
   rfl
  refine done_ (done_of HT_.out (by kernel_rfl)) ?_
  try go_wp2
  go_ret
  exact ⟨by first | rfl | (simp [*, errW_none, errW_some] <;> rfl), by repeat (first | (with_reducible first | exact HB.out | apply zG | apply zA | apply zF | refine zH ?_ GE205.out) | exact HB.out)⟩
end Go.Proofs.Ytomgliinndfliaa.X
