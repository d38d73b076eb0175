/- Part of the proof of the law FnExactPanelStarts: each function of the code computes what its plain function says. No condition of its own. -/
import Derived.Test.YtioendlbpendpaaCFnExactPanelStartsW3
set_option maxHeartbeats 8000000
set_option maxRecDepth 100000
namespace Go.Proofs.Ytioendlbpendpaa.X
open Go.RowKit Go.Proofs.YtioendlbpendpaaW.PrintWords Go.Proofs.YtioendlbpendpaaW.PrintLast Go.Proofs.YtioendlbpendpaaW.PrintMore
attribute [local go_sem] max2_int min2_int max_two min_two max_three min_three max_four min_four   -- for this text's walks alone
set_option linter.unusedVariables false
set_option linter.unusedSimpArgs false
attribute [local go_sem high] eqA50
theorem wA.calls (a0_0 : Int) (a0_1 : Int) (a0_2 : Int) (a1_0 : Int) (a1_1 : Int) (r : Bool) (w : World) (h : wA.f a0_0 a0_1 a0_2 a1_0 a1_1 = some r) :
  Calls Try.prog 133 #[.agg #[.int .i64 a0_0, .int .i64 a0_1, .int .i64 a0_2], .agg #[.int .i64 a1_0, .int .i64 a1_1]] w fun e w' => e = .returned (.bool r) ∧ Below w.heap.size w w' := by
 have hu30 := Try.underlying30
 have hu50 := Try.underlying50
 have HB := zC.mk (Below.refl w.heap.size w)
 have H : ((xO.f a0_0 a0_1 a0_2 a1_0 a1_1).bind fun bt381 => (some (bt381.1 == 0 && (bt381.2 == 0)))) = some r := h
 clear h
 replace H := Option.bind_eq_some_iff.mp H
 obtain ⟨⟨t381, t382⟩, A30, H⟩ := H
 replace H : (some (t381 == 0 && (t382 == 0))) = some r := H
 have A3 := zC.mk A30
 clear A30
 obtain rfl := Option.some.inj H
 go_enter Try.func133, Try.ntmps133
 go_wp2_with (first | ((with_reducible refine zQ (N := 2) rfl ?_); refine zO ?hg (N := 2) ?hd (cs := #[.int .i64 a0_0, .int .i64 a0_1, .int .i64 a0_2]) (t := 30) ?hr ?_; (case hd => rfl); (case hg => rfl); (case hr => first | (go_simp; done) | (go_simp; rfl)); intro gb379 hg w4 hbox hb; have n0_ := zC.mk (zL (by repeat (first | (with_reducible first | exact HB.out | apply zG | apply zA | apply zF) | exact HB.out)) hb); have n1_ := zC.mk (hbox); have n2_ := zC.mk ((by rw [hg]; exact (zM (by repeat (first | (with_reducible first | exact HB.out | apply zG | apply zA | apply zF) | exact HB.out))) : w.heap.size ≤ gb379)); have n3_ := n2_; clear HB; have HB := n0_; have BK379 := n1_; have GW379 := n2_; have GE379 := n3_; clear n0_ n1_ n2_ n3_; clear hb hbox hg) | ((with_reducible refine zQ (N := 3) rfl ?_); refine zO ?hg (N := 3) ?hd (cs := #[.int .i64 a1_0, .int .i64 a1_1]) (t := 50) ?hr ?_; (case hd => rfl); (case hg => rfl); (case hr => first | (go_simp; done) | (go_simp; rfl)); intro gb380 hg w5 hbox hb; have n0_ := zC.mk (zK (g := gb379) (o := .cells #[.int .i64 a0_0, .int .i64 a0_1, .int .i64 a0_2] 30 (0, 0)) (by (with_reducible repeat (first | refine zE ?_ _ | refine zI ?_ | refine zD ?_ _)); exact BK379.out) hb); have n1_ := zC.mk (zL (by repeat (first | (with_reducible first | exact HB.out | apply zG | apply zA | apply zF | refine zH ?_ GE379.out) | exact HB.out)) hb); have n2_ := zC.mk (hbox); have n3_ := zC.mk ((by rw [hg]; exact (zM (by repeat (first | (with_reducible first | exact HB.out | apply zG | apply zA | apply zF | refine zH ?_ GE379.out) | exact HB.out))) : w.heap.size ≤ gb380)); have n4_ := n3_; have n5_ := zC.mk ((by rw [hg]; exact Nat.ne_of_lt (zV (by (with_reducible repeat (first | refine zE ?_ _ | refine zI ?_ | refine zD ?_ _)); exact BK379.out)) : gb379 ≠ gb380)); have n6_ := zC.mk n5_.out.symm; clear BK379; clear HB; have BK379 := n0_; have HB := n1_; have BK380 := n2_; have GW380 := n3_; have GE380 := n4_; have NB379_380 := n5_; have NB380_379 := n6_; clear n0_ n1_ n2_ n3_ n4_ n5_ n6_; clear hb hbox hg; have hnb6 := NB379_380.out; have hnc6 := NB380_379.out; have hcz7_0 : w5.cell? ⟨gb379, 0, none⟩ = some (.int .i64 a0_0) := zB BK379.out 0; have hcz7_1 : w5.cell? ⟨gb379, 1, none⟩ = some (.int .i64 a0_1) := zB BK379.out 1; have hcz7_2 : w5.cell? ⟨gb379, 2, none⟩ = some (.int .i64 a0_2) := zB BK379.out 2; have hfz7_0 := zJ BK379.out 0; have hfz7_1 := zJ BK379.out 1; have hfz7_2 := zJ BK379.out 2; have hcz8_0 : w5.cell? ⟨gb380, 0, none⟩ = some (.int .i64 a1_0) := zB BK380.out 0; have hcz8_1 : w5.cell? ⟨gb380, 1, none⟩ = some (.int .i64 a1_1) := zB BK380.out 1; have hfz8_0 := zJ BK380.out 0; have hfz8_1 := zJ BK380.out 1) | ((with_reducible refine zP (f := 110) rfl ?_); refine zX (some 7) rfl rfl Try.func110 (by kernel_rfl) rfl #[.agg #[.int .i64 a0_0, .int .i64 a0_1, .int .i64 a0_2], .agg #[.int .i64 a1_0, .int .i64 a1_1]] rfl (by (try simp only [List.map_toArray, List.map_cons, List.map_nil]); first | done | rfl) ?_; (with_reducible refine (xO.calls a0_0 a0_1 a0_2 a1_0 a1_1 t381 t382 _ A3.out).mono ?_); rintro e w9 ⟨rfl, hb⟩; refine ⟨_, rfl, ?_⟩; have n0_ := zC.mk (zK (g := gb379) (o := .cells #[.int .i64 a0_0, .int .i64 a0_1, .int .i64 a0_2] 30 (0, 0)) (by (with_reducible repeat (first | refine zE ?_ _ | refine zI ?_ | refine zD ?_ _)); exact BK379.out) hb); have n1_ := zC.mk (zK (g := gb380) (o := .cells #[.int .i64 a1_0, .int .i64 a1_1] 50 (0, 0)) (by (with_reducible repeat (first | refine zE ?_ _ | refine zI ?_ | refine zD ?_ _)); exact BK380.out) hb); have n2_ := zC.mk (zL (by repeat (first | (with_reducible first | exact HB.out | apply zG | apply zA | apply zF | refine zH ?_ GE379.out | refine zH ?_ GE380.out) | exact HB.out)) hb); clear BK379; clear BK380; clear HB; have BK379 := n0_; have BK380 := n1_; have HB := n2_; clear n0_ n1_ n2_; (try clear hb)))
 go_ret
 exact ⟨by first | rfl | (simp [*, errW_none, errW_some] <;> rfl), by repeat (first | (with_reducible first | exact HB.out | apply zG | apply zA | apply zF | refine zH ?_ GE379.out | refine zH ?_ GE380.out) | exact HB.out)⟩
theorem yK.calls (k : Nat) (a0_0 : Int) (a0_1 : Int) (a0_2 : Int) (a1_0 : Int) (a1_1 : Int) (r1 : Int) (r2 : Int) (w : World) (h : yK.f k a0_0 a0_1 a0_2 a1_0 a1_1 = some (r1, r2)) :
  Calls Try.prog 134 #[.agg #[.int .i64 a0_0, .int .i64 a0_1, .int .i64 a0_2], .agg #[.int .i64 a1_0, .int .i64 a1_1]] w fun e w' => e = .returned (.agg #[.int .i64 r1, .int .i64 r2]) ∧ Below w.heap.size w w' := by
 have hu30 := Try.underlying30
 have hu50 := Try.underlying50
 have HB := zC.mk (Below.refl w.heap.size w)
 have H : (yK.l0 k a0_0 a0_1 a0_2 a1_0 a1_1 a1_0 a1_1) = some (r1, r2) := h
 clear h
 have H' := zC.mk H
 clear H
 go_enter Try.func134, Try.ntmps134
 go_wp2_with (first | ((with_reducible refine zQ (N := 2) rfl ?_); refine zO ?hg (N := 2) ?hd (cs := #[.int .i64 a0_0, .int .i64 a0_1, .int .i64 a0_2]) (t := 30) ?hr ?_; (case hd => rfl); (case hg => rfl); (case hr => first | (go_simp; done) | (go_simp; rfl)); intro gb383 hg w3 hbox hb; have n0_ := zC.mk (zL (by repeat (first | (with_reducible first | exact HB.out | apply zG | apply zA | apply zF) | exact HB.out)) hb); have n1_ := zC.mk (hbox); have n2_ := zC.mk ((by rw [hg]; exact (zM (by repeat (first | (with_reducible first | exact HB.out | apply zG | apply zA | apply zF) | exact HB.out))) : w.heap.size ≤ gb383)); have n3_ := n2_; clear HB; have HB := n0_; have BK383 := n1_; have GW383 := n2_; have GE383 := n3_; clear n0_ n1_ n2_ n3_; clear hb hbox hg) | ((with_reducible refine zQ (N := 3) rfl ?_); refine zO ?hg (N := 3) ?hd (cs := #[.int .i64 a1_0, .int .i64 a1_1]) (t := 50) ?hr ?_; (case hd => rfl); (case hg => rfl); (case hr => first | (go_simp; done) | (go_simp; rfl)); intro gb384 hg w4 hbox hb; have n0_ := zC.mk (zK (g := gb383) (o := .cells #[.int .i64 a0_0, .int .i64 a0_1, .int .i64 a0_2] 30 (0, 0)) (by (with_reducible repeat (first | refine zE ?_ _ | refine zI ?_ | refine zD ?_ _)); exact BK383.out) hb); have n1_ := zC.mk (zL (by repeat (first | (with_reducible first | exact HB.out | apply zG | apply zA | apply zF | refine zH ?_ GE383.out) | exact HB.out)) hb); have n2_ := zC.mk (hbox); have n3_ := zC.mk ((by rw [hg]; exact (zM (by repeat (first | (with_reducible first | exact HB.out | apply zG | apply zA | apply zF | refine zH ?_ GE383.out) | exact HB.out))) : w.heap.size ≤ gb384)); have n4_ := n3_; have n5_ := zC.mk ((by rw [hg]; exact Nat.ne_of_lt (zV (by (with_reducible repeat (first | refine zE ?_ _ | refine zI ?_ | refine zD ?_ _)); exact BK383.out)) : gb383 ≠ gb384)); have n6_ := zC.mk n5_.out.symm; clear BK383; clear HB; have BK383 := n0_; have HB := n1_; have BK384 := n2_; have GW384 := n3_; have GE384 := n4_; have NB383_384 := n5_; have NB384_383 := n6_; clear n0_ n1_ n2_ n3_ n4_ n5_ n6_; clear hb hbox hg) | ((with_reducible refine zQ (N := 4) rfl ?_); refine zO ?hg (N := 4) ?hd (cs := #[.int .i64 0, .int .i64 0]) (t := 50) ?hr ?_; (case hd => rfl); (case hg => rfl); (case hr => first | (go_simp; done) | (go_simp; rfl)); intro gb385 hg w5 hbox hb; have n0_ := zC.mk (zK (g := gb383) (o := .cells #[.int .i64 a0_0, .int .i64 a0_1, .int .i64 a0_2] 30 (0, 0)) (by (with_reducible repeat (first | refine zE ?_ _ | refine zI ?_ | refine zD ?_ _)); exact BK383.out) hb); have n1_ := zC.mk (zK (g := gb384) (o := .cells #[.int .i64 a1_0, .int .i64 a1_1] 50 (0, 0)) (by (with_reducible repeat (first | refine zE ?_ _ | refine zI ?_ | refine zD ?_ _)); exact BK384.out) hb); have n2_ := zC.mk (zL (by repeat (first | (with_reducible first | exact HB.out | apply zG | apply zA | apply zF | refine zH ?_ GE383.out | refine zH ?_ GE384.out) | exact HB.out)) hb); have n3_ := zC.mk (hbox); have n4_ := zC.mk ((by rw [hg]; exact (zM (by repeat (first | (with_reducible first | exact HB.out | apply zG | apply zA | apply zF | refine zH ?_ GE383.out | refine zH ?_ GE384.out) | exact HB.out))) : w.heap.size ≤ gb385)); have n5_ := n4_; have n6_ := zC.mk ((by rw [hg]; exact Nat.ne_of_lt (zV (by (with_reducible repeat (first | refine zE ?_ _ | refine zI ?_ | refine zD ?_ _)); exact BK383.out)) : gb383 ≠ gb385)); have n7_ := zC.mk n6_.out.symm; have n8_ := zC.mk ((by rw [hg]; exact Nat.ne_of_lt (zV (by (with_reducible repeat (first | refine zE ?_ _ | refine zI ?_ | refine zD ?_ _)); exact BK384.out)) : gb384 ≠ gb385)); have n9_ := zC.mk n8_.out.symm; clear BK383; clear BK384; clear HB; have BK383 := n0_; have BK384 := n1_; have HB := n2_; have BK385 := n3_; have GW385 := n4_; have GE385 := n5_; have NB383_385 := n6_; have NB385_383 := n7_; have NB384_385 := n8_; have NB385_384 := n9_; clear n0_ n1_ n2_ n3_ n4_ n5_ n6_ n7_ n8_ n9_; clear hb hbox hg; have hnb6 := NB384_383.out; have hnc6 := NB383_384.out; have hnb7 := NB384_385.out; have hnc7 := NB385_384.out; have hcz8_0 : w5.cell? ⟨gb384, 0, none⟩ = some (.int .i64 a1_0) := zB BK384.out 0; have hcz8_1 : w5.cell? ⟨gb384, 1, none⟩ = some (.int .i64 a1_1) := zB BK384.out 1; have hfz8_0 := zJ BK384.out 0; have hfz8_1 := zJ BK384.out 1) | ((with_reducible refine zQ (N := 5) rfl ?_); refine zO ?hg (N := 5) ?hd (cs := #[.int .i64 0, .int .i64 0]) (t := 50) ?hr ?_; (case hd => rfl); (case hg => rfl); (case hr => first | (go_simp; done) | (go_simp; rfl)); intro gb386 hg w9 hbox hb; have n0_ := zC.mk (zK (g := gb383) (o := .cells #[.int .i64 a0_0, .int .i64 a0_1, .int .i64 a0_2] 30 (0, 0)) (by (with_reducible repeat (first | refine zE ?_ _ | refine zI ?_ | refine zD ?_ _)); exact BK383.out) hb); have n1_ := zC.mk (zK (g := gb384) (o := .cells #[.int .i64 a1_0, .int .i64 a1_1] 50 (0, 0)) (by (with_reducible repeat (first | refine zE ?_ _ | refine zI ?_ | refine zD ?_ _)); exact BK384.out) hb); have n2_ := zC.mk (zK (g := gb385) (o := .cells #[.int .i64 0, .int .i64 0] 50 (0, 0)) (by (with_reducible repeat (first | refine zE ?_ _ | refine zI ?_ | refine zD ?_ _)); exact BK385.out) hb); have n3_ := zC.mk (zL (by repeat (first | (with_reducible first | exact HB.out | apply zG | apply zA | apply zF | refine zH ?_ GE383.out | refine zH ?_ GE384.out | refine zH ?_ GE385.out) | exact HB.out)) hb); have n4_ := zC.mk (hbox); have n5_ := zC.mk ((by rw [hg]; exact (zM (by repeat (first | (with_reducible first | exact HB.out | apply zG | apply zA | apply zF | refine zH ?_ GE383.out | refine zH ?_ GE384.out | refine zH ?_ GE385.out) | exact HB.out))) : w.heap.size ≤ gb386)); have n6_ := n5_; have n7_ := zC.mk ((by rw [hg]; exact Nat.ne_of_lt (zV (by (with_reducible repeat (first | refine zE ?_ _ | refine zI ?_ | refine zD ?_ _)); exact BK383.out)) : gb383 ≠ gb386)); have n8_ := zC.mk n7_.out.symm; have n9_ := zC.mk ((by rw [hg]; exact Nat.ne_of_lt (zV (by (with_reducible repeat (first | refine zE ?_ _ | refine zI ?_ | refine zD ?_ _)); exact BK384.out)) : gb384 ≠ gb386)); have n10_ := zC.mk n9_.out.symm; have n11_ := zC.mk ((by rw [hg]; exact Nat.ne_of_lt (zV (by (with_reducible repeat (first | refine zE ?_ _ | refine zI ?_ | refine zD ?_ _)); exact BK385.out)) : gb385 ≠ gb386)); have n12_ := zC.mk n11_.out.symm; clear BK383; clear BK384; clear BK385; clear HB; have BK383 := n0_; have BK384 := n1_; have BK385 := n2_; have HB := n3_; have BK386 := n4_; have GW386 := n5_; have GE386 := n6_; have NB383_386 := n7_; have NB386_383 := n8_; have NB384_386 := n9_; have NB386_384 := n10_; have NB385_386 := n11_; have NB386_385 := n12_; clear n0_ n1_ n2_ n3_ n4_ n5_ n6_ n7_ n8_ n9_ n10_ n11_ n12_; clear hb hbox hg; have hnb10 := NB386_383.out; have hnc10 := NB383_386.out; have hnb11 := NB386_384.out; have hnc11 := NB384_386.out; have hnb12 := NB386_385.out; have hnc12 := NB385_386.out; have hcz13_0 : w9.cell? ⟨gb386, 0, none⟩ = some (.int .i64 0) := zB BK386.out 0; have hcz13_1 : w9.cell? ⟨gb386, 1, none⟩ = some (.int .i64 0) := zB BK386.out 1; have hfz13_0 := zJ BK386.out 0; have hfz13_1 := zJ BK386.out 1))
 go_loopg [] k (fun kq w' => ∃ (x387000_1 : Int) (x387001_1 : Int), zC (yK.l0 kq a0_0 a0_1 a0_2 a1_0 a1_1 x387000_1 x387001_1 = some (r1, r2)) ∧ zC (kq ≤ k) ∧ zC (w'.heap[gb383]? = some (.cells #[.int .i64 a0_0, .int .i64 a0_1, .int .i64 a0_2] 30 (0, 0))) ∧ zC (w'.heap[gb384]? = some (.cells #[.int .i64 a1_0, .int .i64 a1_1] 50 (0, 0))) ∧ zC (w'.heap[gb385]? = some (.cells #[.int .i64 0, .int .i64 0] 50 (0, 0))) ∧ zC (w'.heap[gb386]? = some (.cells #[.int .i64 x387000_1, .int .i64 x387001_1] 50 (0, 0))) ∧ zC (Below w.heap.size w w'))
 case atStart => exact ⟨(a1_0), (a1_1), H', ⟨Nat.le_refl _⟩, ⟨by (with_reducible repeat (first | refine zE ?_ _ | refine zI ?_ | refine zD ?_ _)); refine zU ?_ NB383_386.out _; (with_reducible repeat (first | refine zE ?_ _ | refine zI ?_ | refine zD ?_ _)); refine zU ?_ NB383_386.out _; (with_reducible repeat (first | refine zE ?_ _ | refine zI ?_ | refine zD ?_ _)); exact BK383.out⟩, ⟨by (with_reducible repeat (first | refine zE ?_ _ | refine zI ?_ | refine zD ?_ _)); refine zU ?_ NB384_386.out _; (with_reducible repeat (first | refine zE ?_ _ | refine zI ?_ | refine zD ?_ _)); refine zU ?_ NB384_386.out _; (with_reducible repeat (first | refine zE ?_ _ | refine zI ?_ | refine zD ?_ _)); exact BK384.out⟩, ⟨by (with_reducible repeat (first | refine zE ?_ _ | refine zI ?_ | refine zD ?_ _)); refine zU ?_ NB385_386.out _; (with_reducible repeat (first | refine zE ?_ _ | refine zI ?_ | refine zD ?_ _)); refine zU ?_ NB385_386.out _; (with_reducible repeat (first | refine zE ?_ _ | refine zI ?_ | refine zD ?_ _)); exact BK385.out⟩, ⟨by (with_reducible repeat (first | refine zE ?_ _ | refine zI ?_ | refine zD ?_ _)); refine zS (cs := #[.int .i64 a1_0, .int .i64 0]) ?_ 1 _ rfl; (with_reducible repeat (first | refine zE ?_ _ | refine zI ?_ | refine zD ?_ _)); refine zS (cs := #[.int .i64 0, .int .i64 0]) ?_ 0 _ rfl; (with_reducible repeat (first | refine zE ?_ _ | refine zI ?_ | refine zD ?_ _)); exact BK386.out⟩, ⟨by repeat (first | (with_reducible first | exact HB.out | apply zG | apply zA | apply zF | refine zH ?_ GE383.out | refine zH ?_ GE384.out | refine zH ?_ GE385.out | refine zH ?_ GE386.out) | exact HB.out)⟩⟩
 case round =>
  clear H'
  try clear c1
  try clear p2
  try clear c6
  try clear c7
  try clear c10
  try clear c11
  try clear c12
  try clear c13
  try clear hcz13_0
  try clear hcz13_1
  try clear hcz8_0
  try clear hcz8_1
  try clear hfz13_0
  try clear hfz13_1
  try clear hfz8_0
  try clear hfz8_1
  obtain ⟨x387000_1, x387001_1, HA, HK1, BK383, BK384, BK385, BK386, HB⟩ := hrel
  cases gk with
  | zero => exact absurd HA.out (by simp [yK.l0])
  | succ k1 =>
   have H := HA.out
   clear HA
   simp only [yK.l0] at H
   replace H := Option.bind_eq_some_iff.mp H
   obtain ⟨t387, A140, H⟩ := H
   replace H : (if t387 = true then (some (x387000_1, x387001_1)) else ((xX.f x387000_1 x387001_1 a1_0 a1_1).bind fun bt388 => (yK.l0 k1 a0_0 a0_1 a0_2 a1_0 a1_1 bt388.1 bt388.2))) = some (r1, r2) := H
   have A14 := zC.mk A140
   clear A140
   by_cases c15 : t387 = true
   ·
    subst c15
    have H1 : (some (x387000_1, x387001_1)) = some (r1, r2) := by rw [if_pos rfl] at H; exact H
    clear H
    have H := H1
    clear H1
    simp only [Option.some.injEq, Prod.mk.injEq] at H
    obtain ⟨rfl, rfl⟩ := H
    have hnb16 := NB383_384.out
    have hnc16 := NB384_383.out
    have hnb17 := NB383_385.out
    have hnc17 := NB385_383.out
    have hnb18 := NB383_386.out
    have hnc18 := NB386_383.out
    have hcz19_0 : wr.cell? ⟨gb383, 0, none⟩ = some (.int .i64 a0_0) := zB BK383.out 0
    have hcz19_1 : wr.cell? ⟨gb383, 1, none⟩ = some (.int .i64 a0_1) := zB BK383.out 1
    have hcz19_2 : wr.cell? ⟨gb383, 2, none⟩ = some (.int .i64 a0_2) := zB BK383.out 2
    have hfz19_0 := zJ BK383.out 0
    have hfz19_1 := zJ BK383.out 1
    have hfz19_2 := zJ BK383.out 2
    have hnb20 := NB386_384.out
    have hnc20 := NB384_386.out
    have hnb21 := NB386_385.out
    have hnc21 := NB385_386.out
    have hcz22_0 : wr.cell? ⟨gb386, 0, none⟩ = some (.int .i64 x387000_1) := zB BK386.out 0
    have hcz22_1 : wr.cell? ⟨gb386, 1, none⟩ = some (.int .i64 x387001_1) := zB BK386.out 1
    have hfz22_0 := zJ BK386.out 0
    have hfz22_1 := zJ BK386.out 1
    go_wp2_with (first | ((with_reducible refine zP (f := 133) rfl ?_); refine zX (some 9) rfl rfl Try.func133 (by kernel_rfl) rfl #[.agg #[.int .i64 a0_0, .int .i64 a0_1, .int .i64 a0_2], .agg #[.int .i64 x387000_1, .int .i64 x387001_1]] rfl (by (try simp only [List.map_toArray, List.map_cons, List.map_nil]); first | done | rfl) ?_; (with_reducible refine (wA.calls a0_0 a0_1 a0_2 x387000_1 x387001_1 true _ A14.out).mono ?_); rintro e w23 ⟨rfl, hb⟩; refine ⟨_, rfl, ?_⟩; have n0_ := zC.mk (zK (g := gb383) (o := .cells #[.int .i64 a0_0, .int .i64 a0_1, .int .i64 a0_2] 30 (0, 0)) (by (with_reducible repeat (first | refine zE ?_ _ | refine zI ?_ | refine zD ?_ _)); exact BK383.out) hb); have n1_ := zC.mk (zK (g := gb384) (o := .cells #[.int .i64 a1_0, .int .i64 a1_1] 50 (0, 0)) (by (with_reducible repeat (first | refine zE ?_ _ | refine zI ?_ | refine zD ?_ _)); exact BK384.out) hb); have n2_ := zC.mk (zK (g := gb385) (o := .cells #[.int .i64 0, .int .i64 0] 50 (0, 0)) (by (with_reducible repeat (first | refine zE ?_ _ | refine zI ?_ | refine zD ?_ _)); exact BK385.out) hb); have n3_ := zC.mk (zK (g := gb386) (o := .cells #[.int .i64 x387000_1, .int .i64 x387001_1] 50 (0, 0)) (by (with_reducible repeat (first | refine zE ?_ _ | refine zI ?_ | refine zD ?_ _)); exact BK386.out) hb); have n4_ := zC.mk (zL (by repeat (first | (with_reducible first | exact HB.out | apply zG | apply zA | apply zF | refine zH ?_ GE383.out | refine zH ?_ GE384.out | refine zH ?_ GE385.out | refine zH ?_ GE386.out) | exact HB.out)) hb); clear BK383; clear BK384; clear BK385; clear BK386; clear HB; have BK383 := n0_; have BK384 := n1_; have BK385 := n2_; have BK386 := n3_; have HB := n4_; clear n0_ n1_ n2_ n3_ n4_; (try clear hb); have hcz24_0 : w23.cell? ⟨gb386, 0, none⟩ = some (.int .i64 x387000_1) := zB BK386.out 0; have hcz24_1 : w23.cell? ⟨gb386, 1, none⟩ = some (.int .i64 x387001_1) := zB BK386.out 1; have hfz24_0 := zJ BK386.out 0; have hfz24_1 := zJ BK386.out 1; have hnb25 := NB385_384.out; have hnc25 := NB384_385.out; have hcz26_0 : w23.cell? ⟨gb385, 0, none⟩ = some (.int .i64 0) := zB BK385.out 0; have hcz26_1 : w23.cell? ⟨gb385, 1, none⟩ = some (.int .i64 0) := zB BK385.out 1; have hfz26_0 := zJ BK385.out 0; have hfz26_1 := zJ BK385.out 1))
    refine bodyPost_ret (results_cell_row rfl _ _ gb385 50 #[.int .i64 x387000_1, .int .i64 x387001_1] (0, 0) _ rfl (by (with_reducible repeat (first | refine zE ?_ _ | refine zI ?_ | refine zD ?_ _)); refine zS (cs := #[.int .i64 x387000_1, .int .i64 0]) ?_ 1 _ rfl; (with_reducible repeat (first | refine zE ?_ _ | refine zI ?_ | refine zD ?_ _)); refine zS (cs := #[.int .i64 0, .int .i64 0]) ?_ 0 _ rfl; (with_reducible repeat (first | refine zE ?_ _ | refine zI ?_ | refine zD ?_ _)); exact BK385.out) Try.underlying50 rfl (by kernel_rfl)) rfl ?_
    exact ⟨by first | rfl | (simp [*, errW_none, errW_some] <;> rfl), by repeat (first | (with_reducible first | exact HB.out | apply zG | apply zA | apply zF | refine zH ?_ GE383.out | refine zH ?_ GE384.out | refine zH ?_ GE385.out | refine zH ?_ GE386.out) | exact HB.out)⟩
   ·
    replace c15 := Bool.eq_false_iff.mpr c15
    subst c15
    have H1 : ((xX.f x387000_1 x387001_1 a1_0 a1_1).bind fun bt388 => (yK.l0 k1 a0_0 a0_1 a0_2 a1_0 a1_1 bt388.1 bt388.2)) = some (r1, r2) := by rw [if_neg (show ¬ (false = true) by decide)] at H; exact H
    clear H
    have H := H1
    clear H1
    replace H := Option.bind_eq_some_iff.mp H
    obtain ⟨⟨t388, t389⟩, A270, H⟩ := H
    replace H : (yK.l0 k1 a0_0 a0_1 a0_2 a1_0 a1_1 t388 t389) = some (r1, r2) := H
    have A27 := zC.mk A270
    clear A270
    have H' := zC.mk H
    clear H
    have hnb28 := NB383_384.out
    have hnc28 := NB384_383.out
    have hnb29 := NB383_385.out
    have hnc29 := NB385_383.out
    have hnb30 := NB383_386.out
    have hnc30 := NB386_383.out
    have hcz31_0 : wr.cell? ⟨gb383, 0, none⟩ = some (.int .i64 a0_0) := zB BK383.out 0
    have hcz31_1 : wr.cell? ⟨gb383, 1, none⟩ = some (.int .i64 a0_1) := zB BK383.out 1
    have hcz31_2 : wr.cell? ⟨gb383, 2, none⟩ = some (.int .i64 a0_2) := zB BK383.out 2
    have hfz31_0 := zJ BK383.out 0
    have hfz31_1 := zJ BK383.out 1
    have hfz31_2 := zJ BK383.out 2
    have hnb32 := NB386_384.out
    have hnc32 := NB384_386.out
    have hnb33 := NB386_385.out
    have hnc33 := NB385_386.out
    have hcz34_0 : wr.cell? ⟨gb386, 0, none⟩ = some (.int .i64 x387000_1) := zB BK386.out 0
    have hcz34_1 : wr.cell? ⟨gb386, 1, none⟩ = some (.int .i64 x387001_1) := zB BK386.out 1
    have hfz34_0 := zJ BK386.out 0
    have hfz34_1 := zJ BK386.out 1
    go_wp2_with (first | ((with_reducible refine zP (f := 133) rfl ?_); refine zX (some 9) rfl rfl Try.func133 (by kernel_rfl) rfl #[.agg #[.int .i64 a0_0, .int .i64 a0_1, .int .i64 a0_2], .agg #[.int .i64 x387000_1, .int .i64 x387001_1]] rfl (by (try simp only [List.map_toArray, List.map_cons, List.map_nil]); first | done | rfl) ?_; (with_reducible refine (wA.calls a0_0 a0_1 a0_2 x387000_1 x387001_1 false _ A14.out).mono ?_); rintro e w35 ⟨rfl, hb⟩; refine ⟨_, rfl, ?_⟩; have n0_ := zC.mk (zK (g := gb383) (o := .cells #[.int .i64 a0_0, .int .i64 a0_1, .int .i64 a0_2] 30 (0, 0)) (by (with_reducible repeat (first | refine zE ?_ _ | refine zI ?_ | refine zD ?_ _)); exact BK383.out) hb); have n1_ := zC.mk (zK (g := gb384) (o := .cells #[.int .i64 a1_0, .int .i64 a1_1] 50 (0, 0)) (by (with_reducible repeat (first | refine zE ?_ _ | refine zI ?_ | refine zD ?_ _)); exact BK384.out) hb); have n2_ := zC.mk (zK (g := gb385) (o := .cells #[.int .i64 0, .int .i64 0] 50 (0, 0)) (by (with_reducible repeat (first | refine zE ?_ _ | refine zI ?_ | refine zD ?_ _)); exact BK385.out) hb); have n3_ := zC.mk (zK (g := gb386) (o := .cells #[.int .i64 x387000_1, .int .i64 x387001_1] 50 (0, 0)) (by (with_reducible repeat (first | refine zE ?_ _ | refine zI ?_ | refine zD ?_ _)); exact BK386.out) hb); have n4_ := zC.mk (zL (by repeat (first | (with_reducible first | exact HB.out | apply zG | apply zA | apply zF | refine zH ?_ GE383.out | refine zH ?_ GE384.out | refine zH ?_ GE385.out | refine zH ?_ GE386.out) | exact HB.out)) hb); clear BK383; clear BK384; clear BK385; clear BK386; clear HB; have BK383 := n0_; have BK384 := n1_; have BK385 := n2_; have BK386 := n3_; have HB := n4_; clear n0_ n1_ n2_ n3_ n4_; (try clear hb); have hcz36_0 : w35.cell? ⟨gb386, 0, none⟩ = some (.int .i64 x387000_1) := zB BK386.out 0; have hcz36_1 : w35.cell? ⟨gb386, 1, none⟩ = some (.int .i64 x387001_1) := zB BK386.out 1; have hfz36_0 := zJ BK386.out 0; have hfz36_1 := zJ BK386.out 1; have hnb37 := NB384_385.out; have hnc37 := NB385_384.out; have hcz38_0 : w35.cell? ⟨gb384, 0, none⟩ = some (.int .i64 a1_0) := zB BK384.out 0; have hcz38_1 : w35.cell? ⟨gb384, 1, none⟩ = some (.int .i64 a1_1) := zB BK384.out 1; have hfz38_0 := zJ BK384.out 0; have hfz38_1 := zJ BK384.out 1) | ((with_reducible refine zP (f := 149) rfl ?_); refine zX (some 13) rfl rfl Try.func149 (by kernel_rfl) rfl #[.agg #[.int .i64 x387000_1, .int .i64 x387001_1], .agg #[.int .i64 a1_0, .int .i64 a1_1]] rfl (by (try simp only [List.map_toArray, List.map_cons, List.map_nil]); first | done | rfl) ?_; (with_reducible refine (xX.calls x387000_1 x387001_1 a1_0 a1_1 t388 t389 _ A27.out).mono ?_); rintro e w39 ⟨rfl, hb⟩; refine ⟨_, rfl, ?_⟩; have n0_ := zC.mk (zK (g := gb383) (o := .cells #[.int .i64 a0_0, .int .i64 a0_1, .int .i64 a0_2] 30 (0, 0)) (by (with_reducible repeat (first | refine zE ?_ _ | refine zI ?_ | refine zD ?_ _)); exact BK383.out) hb); have n1_ := zC.mk (zK (g := gb384) (o := .cells #[.int .i64 a1_0, .int .i64 a1_1] 50 (0, 0)) (by (with_reducible repeat (first | refine zE ?_ _ | refine zI ?_ | refine zD ?_ _)); exact BK384.out) hb); have n2_ := zC.mk (zK (g := gb385) (o := .cells #[.int .i64 0, .int .i64 0] 50 (0, 0)) (by (with_reducible repeat (first | refine zE ?_ _ | refine zI ?_ | refine zD ?_ _)); exact BK385.out) hb); have n3_ := zC.mk (zK (g := gb386) (o := .cells #[.int .i64 x387000_1, .int .i64 x387001_1] 50 (0, 0)) (by (with_reducible repeat (first | refine zE ?_ _ | refine zI ?_ | refine zD ?_ _)); exact BK386.out) hb); have n4_ := zC.mk (zL (by repeat (first | (with_reducible first | exact HB.out | apply zG | apply zA | apply zF | refine zH ?_ GE383.out | refine zH ?_ GE384.out | refine zH ?_ GE385.out | refine zH ?_ GE386.out) | exact HB.out)) hb); clear BK383; clear BK384; clear BK385; clear BK386; clear HB; have BK383 := n0_; have BK384 := n1_; have BK385 := n2_; have BK386 := n3_; have HB := n4_; clear n0_ n1_ n2_ n3_ n4_; (try clear hb); have hcz40_0 : w39.cell? ⟨gb386, 0, none⟩ = some (.int .i64 x387000_1) := zB BK386.out 0; have hcz40_1 : w39.cell? ⟨gb386, 1, none⟩ = some (.int .i64 x387001_1) := zB BK386.out 1; have hfz40_0 := zJ BK386.out 0; have hfz40_1 := zJ BK386.out 1))
    go_roundg k1
    case measure => have := HK1.out; omega
    case rel => exact ⟨(t388), (t389), H', ⟨by have := HK1.out; omega⟩, ⟨by (with_reducible repeat (first | refine zE ?_ _ | refine zI ?_ | refine zD ?_ _)); refine zU ?_ NB383_386.out _; (with_reducible repeat (first | refine zE ?_ _ | refine zI ?_ | refine zD ?_ _)); refine zU ?_ NB383_386.out _; (with_reducible repeat (first | refine zE ?_ _ | refine zI ?_ | refine zD ?_ _)); exact BK383.out⟩, ⟨by (with_reducible repeat (first | refine zE ?_ _ | refine zI ?_ | refine zD ?_ _)); refine zU ?_ NB384_386.out _; (with_reducible repeat (first | refine zE ?_ _ | refine zI ?_ | refine zD ?_ _)); refine zU ?_ NB384_386.out _; (with_reducible repeat (first | refine zE ?_ _ | refine zI ?_ | refine zD ?_ _)); exact BK384.out⟩, ⟨by (with_reducible repeat (first | refine zE ?_ _ | refine zI ?_ | refine zD ?_ _)); refine zU ?_ NB385_386.out _; (with_reducible repeat (first | refine zE ?_ _ | refine zI ?_ | refine zD ?_ _)); refine zU ?_ NB385_386.out _; (with_reducible repeat (first | refine zE ?_ _ | refine zI ?_ | refine zD ?_ _)); exact BK385.out⟩, ⟨by (with_reducible repeat (first | refine zE ?_ _ | refine zI ?_ | refine zD ?_ _)); refine zS (cs := #[.int .i64 t388, .int .i64 x387001_1]) ?_ 1 _ rfl; (with_reducible repeat (first | refine zE ?_ _ | refine zI ?_ | refine zD ?_ _)); refine zS (cs := #[.int .i64 x387000_1, .int .i64 x387001_1]) ?_ 0 _ rfl; (with_reducible repeat (first | refine zE ?_ _ | refine zI ?_ | refine zD ?_ _)); exact BK386.out⟩, ⟨by repeat (first | (with_reducible first | exact HB.out | apply zG | apply zA | apply zF | refine zH ?_ GE383.out | refine zH ?_ GE384.out | refine zH ?_ GE385.out | refine zH ?_ GE386.out) | exact HB.out)⟩⟩
theorem fld96_50_0 (a b : Int) (w : World) : (Instr.field 50 (.agg #[.int .i64 a, .int .i64 b]) 0).run Try.prog w = .ok (.int .i64 a) w := by kernel_rfl
theorem fld96_50_1 (a b : Int) (w : World) : (Instr.field 50 (.agg #[.int .i64 a, .int .i64 b]) 1).run Try.prog w = .ok (.int .i64 b) w := by kernel_rfl
attribute [local go_sem] fld96_50_0 fld96_50_1
theorem xE.calls (k : Nat) (a0_0 : Int) (a0_1 : Int) (a0_2 : Int) (r : Int) (w : World) (h : xE.f k a0_0 a0_1 a0_2 = some r) :
  Calls Try.prog 96 #[.agg #[.int .i64 a0_0, .int .i64 a0_1, .int .i64 a0_2]] w fun e w' => e = .returned (.int .i64 r) ∧ Below w.heap.size w w' := by
 have hu30 := Try.underlying30
 have hu50 := Try.underlying50
 have HB := zC.mk (Below.refl w.heap.size w)
 have H : ((yK.f k a0_0 a0_1 a0_2 0 1).bind fun bt391 => (some bt391.2)) = some r := h
 clear h
 replace H := Option.bind_eq_some_iff.mp H
 obtain ⟨⟨t391, t392⟩, A20, H⟩ := H
 replace H : (some t392) = some r := H
 have A2 := zC.mk A20
 clear A20
 obtain rfl := Option.some.inj H
 go_enter Try.func96, Try.ntmps96
 go_wp2_with (first | ((with_reducible refine zQ (N := 1) rfl ?_); refine zO ?hg (N := 1) ?hd (cs := #[.int .i64 a0_0, .int .i64 a0_1, .int .i64 a0_2]) (t := 30) ?hr ?_; (case hd => rfl); (case hg => rfl); (case hr => first | (go_simp; done) | (go_simp; rfl)); intro gb390 hg w3 hbox hb; have n0_ := zC.mk (zL (by repeat (first | (with_reducible first | exact HB.out | apply zG | apply zA | apply zF) | exact HB.out)) hb); have n1_ := zC.mk (hbox); have n2_ := zC.mk ((by rw [hg]; exact (zM (by repeat (first | (with_reducible first | exact HB.out | apply zG | apply zA | apply zF) | exact HB.out))) : w.heap.size ≤ gb390)); have n3_ := n2_; clear HB; have HB := n0_; have BK390 := n1_; have GW390 := n2_; have GE390 := n3_; clear n0_ n1_ n2_ n3_; clear hb hbox hg; have hcz4_0 : w3.cell? ⟨gb390, 0, none⟩ = some (.int .i64 a0_0) := zB BK390.out 0; have hcz4_1 : w3.cell? ⟨gb390, 1, none⟩ = some (.int .i64 a0_1) := zB BK390.out 1; have hcz4_2 : w3.cell? ⟨gb390, 2, none⟩ = some (.int .i64 a0_2) := zB BK390.out 2; have hfz4_0 := zJ BK390.out 0; have hfz4_1 := zJ BK390.out 1; have hfz4_2 := zJ BK390.out 2) | ((with_reducible refine zP (f := 134) rfl ?_); refine zX (some 5) rfl rfl Try.func134 (by kernel_rfl) rfl #[.agg #[.int .i64 a0_0, .int .i64 a0_1, .int .i64 a0_2], .agg #[.int .i64 0, .int .i64 1]] rfl (by (try simp only [List.map_toArray, List.map_cons, List.map_nil]); first | done | rfl) ?_; (with_reducible refine (yK.calls k a0_0 a0_1 a0_2 0 1 t391 t392 _ A2.out).mono ?_); rintro e w5 ⟨rfl, hb⟩; refine ⟨_, rfl, ?_⟩; have n0_ := zC.mk (zK (g := gb390) (o := .cells #[.int .i64 a0_0, .int .i64 a0_1, .int .i64 a0_2] 30 (0, 0)) (by (with_reducible repeat (first | refine zE ?_ _ | refine zI ?_ | refine zD ?_ _)); exact BK390.out) hb); have n1_ := zC.mk (zL (by repeat (first | (with_reducible first | exact HB.out | apply zG | apply zA | apply zF | refine zH ?_ GE390.out) | exact HB.out)) hb); clear BK390; clear HB; have BK390 := n0_; have HB := n1_; clear n0_ n1_; (try clear hb)))
 go_ret
 exact ⟨by first | rfl | (simp [*, errW_none, errW_some] <;> rfl), by repeat (first | (with_reducible first | exact HB.out | apply zG | apply zA | apply zF | refine zH ?_ GE390.out) | exact HB.out)⟩
theorem yR.calls (k : Nat) (a0_0 : Int) (a0_1 : Int) (a0_2 : Int) (a1 : Int) (r : Int) (w : World) (h : yR.f k a0_0 a0_1 a0_2 a1 = some r) :
  Calls Try.prog 95 #[.agg #[.int .i64 a0_0, .int .i64 a0_1, .int .i64 a0_2], .int .i64 a1] w fun e w' => e = .returned (.int .i64 r) ∧ Below w.heap.size w w' := by
 have hu30 := Try.underlying30
 have hu50 := Try.underlying50
 have HB := zC.mk (Below.refl w.heap.size w)
 have H : ((xE.f k a0_0 a0_1 a0_2).bind fun t394 => (yR.l0 k a1 t394 0 a0_0 a0_1 a0_2)) = some r := h
 clear h
 replace H := Option.bind_eq_some_iff.mp H
 obtain ⟨t394, A30, H⟩ := H
 replace H : (yR.l0 k a1 t394 0 a0_0 a0_1 a0_2) = some r := H
 have A3 := zC.mk A30
 clear A30
 have H' := zC.mk H
 clear H
 go_enter Try.func95, Try.ntmps95
 go_wp2_with (first | ((with_reducible refine zQ (N := 2) rfl ?_); refine zO ?hg (N := 2) ?hd (cs := #[.int .i64 a0_0, .int .i64 a0_1, .int .i64 a0_2]) (t := 30) ?hr ?_; (case hd => rfl); (case hg => rfl); (case hr => first | (go_simp; done) | (go_simp; rfl)); intro gb393 hg w4 hbox hb; have n0_ := zC.mk (zL (by repeat (first | (with_reducible first | exact HB.out | apply zG | apply zA | apply zF) | exact HB.out)) hb); have n1_ := zC.mk (hbox); have n2_ := zC.mk ((by rw [hg]; exact (zM (by repeat (first | (with_reducible first | exact HB.out | apply zG | apply zA | apply zF) | exact HB.out))) : w.heap.size ≤ gb393)); have n3_ := n2_; clear HB; have HB := n0_; have BK393 := n1_; have GW393 := n2_; have GE393 := n3_; clear n0_ n1_ n2_ n3_; clear hb hbox hg; have hcz5_0 : w4.cell? ⟨gb393, 0, none⟩ = some (.int .i64 a0_0) := zB BK393.out 0; have hcz5_1 : w4.cell? ⟨gb393, 1, none⟩ = some (.int .i64 a0_1) := zB BK393.out 1; have hcz5_2 : w4.cell? ⟨gb393, 2, none⟩ = some (.int .i64 a0_2) := zB BK393.out 2; have hfz5_0 := zJ BK393.out 0; have hfz5_1 := zJ BK393.out 1; have hfz5_2 := zJ BK393.out 2) | ((with_reducible refine zP (f := 96) rfl ?_); refine zX (some 7) rfl rfl Try.func96 (by kernel_rfl) rfl #[.agg #[.int .i64 a0_0, .int .i64 a0_1, .int .i64 a0_2]] rfl (by (try simp only [List.map_toArray, List.map_cons, List.map_nil]); first | done | rfl) ?_; (with_reducible refine (xE.calls k a0_0 a0_1 a0_2 t394 _ A3.out).mono ?_); rintro e w6 ⟨rfl, hb⟩; refine ⟨_, rfl, ?_⟩; have n0_ := zC.mk (zK (g := gb393) (o := .cells #[.int .i64 a0_0, .int .i64 a0_1, .int .i64 a0_2] 30 (0, 0)) (by (with_reducible repeat (first | refine zE ?_ _ | refine zI ?_ | refine zD ?_ _)); exact BK393.out) hb); have n1_ := zC.mk (zL (by repeat (first | (with_reducible first | exact HB.out | apply zG | apply zA | apply zF | refine zH ?_ GE393.out) | exact HB.out)) hb); clear BK393; clear HB; have BK393 := n0_; have HB := n1_; clear n0_ n1_; (try clear hb)))
 go_loopg [8] k (fun kq v8 w' => ∃ (x8_1 : Int), v8 = .int .i64 x8_1 ∧ zC (yR.l0 kq a1 t394 x8_1 a0_0 a0_1 a0_2 = some r) ∧ zC (kq ≤ k) ∧ zC (w'.heap[gb393]? = some (.cells #[.int .i64 a0_0, .int .i64 a0_1, .int .i64 a0_2] 30 (0, 0))) ∧ zC (Below w.heap.size w w'))
 case atStart => exact ⟨(0), (by first | rfl | (simp; done) | (simp [*]; done)), H', ⟨Nat.le_refl _⟩, ⟨by (with_reducible repeat (first | refine zE ?_ _ | refine zI ?_ | refine zD ?_ _)); exact BK393.out⟩, ⟨by repeat (first | (with_reducible first | exact HB.out | apply zG | apply zA | apply zF | refine zH ?_ GE393.out) | exact HB.out)⟩⟩
 case round =>
  clear H'
  try clear p2
  try clear hcz5_0
  try clear hcz5_1
  try clear hcz5_2
  try clear hfz5_0
  try clear hfz5_1
  try clear hfz5_2
  obtain ⟨x8_1, rfl, HA, HK1, BK393, HB⟩ := hrel
  cases gk with
  | zero => exact absurd HA.out (by simp [yR.l0])
  | succ k1 =>
   have H := HA.out
   clear HA
   simp only [yR.l0] at H
   by_cases c7 : x8_1 < t394
   ·
    rw [if_pos c7] at H
    have c7b0 : decide (x8_1 < t394) = true := decide_eq_true c7
    clear c7
    replace H := Option.bind_eq_some_iff.mp H
    obtain ⟨t395, A80, H⟩ := H
    replace H : (if t395 = true then (some x8_1) else (yR.l0 k1 a1 t394 (wrap64 (x8_1 + 1)) a0_0 a0_1 a0_2)) = some r := H
    have A8 := zC.mk A80
    clear A80
    by_cases c9 : t395 = true
    ·
     subst c9
     have H1 : (some x8_1) = some r := by rw [if_pos rfl] at H; exact H
     clear H
     have H := H1
     clear H1
     obtain rfl := Option.some.inj H
     have hcz10_0 : wr.cell? ⟨gb393, 0, none⟩ = some (.int .i64 a0_0) := zB BK393.out 0
     have hcz10_1 : wr.cell? ⟨gb393, 1, none⟩ = some (.int .i64 a0_1) := zB BK393.out 1
     have hcz10_2 : wr.cell? ⟨gb393, 2, none⟩ = some (.int .i64 a0_2) := zB BK393.out 2
     have hfz10_0 := zJ BK393.out 0
     have hfz10_1 := zJ BK393.out 1
     have hfz10_2 := zJ BK393.out 2
     go_wp2_with (first | ((with_reducible refine zP (f := 133) rfl ?_); refine zX (some 16) rfl rfl Try.func133 (by kernel_rfl) rfl #[.agg #[.int .i64 a0_0, .int .i64 a0_1, .int .i64 a0_2], .agg #[.int .i64 a1, .int .i64 (wrap64 (-x8_1))]] rfl (by (try simp only [List.map_toArray, List.map_cons, List.map_nil]); first | done | rfl) ?_; (with_reducible refine (wA.calls a0_0 a0_1 a0_2 a1 (wrap64 (-x8_1)) true _ A8.out).mono ?_); rintro e w11 ⟨rfl, hb⟩; refine ⟨_, rfl, ?_⟩; have n0_ := zC.mk (zK (g := gb393) (o := .cells #[.int .i64 a0_0, .int .i64 a0_1, .int .i64 a0_2] 30 (0, 0)) (by (with_reducible repeat (first | refine zE ?_ _ | refine zI ?_ | refine zD ?_ _)); exact BK393.out) hb); have n1_ := zC.mk (zL (by repeat (first | (with_reducible first | exact HB.out | apply zG | apply zA | apply zF | refine zH ?_ GE393.out) | exact HB.out)) hb); clear BK393; clear HB; have BK393 := n0_; have HB := n1_; clear n0_ n1_; (try clear hb)))
     go_ret
     exact ⟨by first | rfl | (simp [*, errW_none, errW_some] <;> rfl), by repeat (first | (with_reducible first | exact HB.out | apply zG | apply zA | apply zF | refine zH ?_ GE393.out) | exact HB.out)⟩
    ·
     replace c9 := Bool.eq_false_iff.mpr c9
     subst c9
     have H1 : (yR.l0 k1 a1 t394 (wrap64 (x8_1 + 1)) a0_0 a0_1 a0_2) = some r := by rw [if_neg (show ¬ (false = true) by decide)] at H; exact H
     clear H
     have H := H1
     clear H1
     have H' := zC.mk H
     clear H
     have hcz12_0 : wr.cell? ⟨gb393, 0, none⟩ = some (.int .i64 a0_0) := zB BK393.out 0
     have hcz12_1 : wr.cell? ⟨gb393, 1, none⟩ = some (.int .i64 a0_1) := zB BK393.out 1
     have hcz12_2 : wr.cell? ⟨gb393, 2, none⟩ = some (.int .i64 a0_2) := zB BK393.out 2
     have hfz12_0 := zJ BK393.out 0
     have hfz12_1 := zJ BK393.out 1
     have hfz12_2 := zJ BK393.out 2
     go_wp2_with (first | ((with_reducible refine zP (f := 133) rfl ?_); refine zX (some 16) rfl rfl Try.func133 (by kernel_rfl) rfl #[.agg #[.int .i64 a0_0, .int .i64 a0_1, .int .i64 a0_2], .agg #[.int .i64 a1, .int .i64 (wrap64 (-x8_1))]] rfl (by (try simp only [List.map_toArray, List.map_cons, List.map_nil]); first | done | rfl) ?_; (with_reducible refine (wA.calls a0_0 a0_1 a0_2 a1 (wrap64 (-x8_1)) false _ A8.out).mono ?_); rintro e w13 ⟨rfl, hb⟩; refine ⟨_, rfl, ?_⟩; have n0_ := zC.mk (zK (g := gb393) (o := .cells #[.int .i64 a0_0, .int .i64 a0_1, .int .i64 a0_2] 30 (0, 0)) (by (with_reducible repeat (first | refine zE ?_ _ | refine zI ?_ | refine zD ?_ _)); exact BK393.out) hb); have n1_ := zC.mk (zL (by repeat (first | (with_reducible first | exact HB.out | apply zG | apply zA | apply zF | refine zH ?_ GE393.out) | exact HB.out)) hb); clear BK393; clear HB; have BK393 := n0_; have HB := n1_; clear n0_ n1_; (try clear hb)))
     go_roundg k1
     case measure => have := HK1.out; omega
     case rel => exact ⟨(wrap64 (x8_1 + 1)), (by first | rfl | (simp; done) | (simp [*]; done)), H', ⟨by have := HK1.out; omega⟩, ⟨by (with_reducible repeat (first | refine zE ?_ _ | refine zI ?_ | refine zD ?_ _)); exact BK393.out⟩, ⟨by repeat (first | (with_reducible first | exact HB.out | apply zG | apply zA | apply zF | refine zH ?_ GE393.out) | exact HB.out)⟩⟩
   ·
    rw [if_neg c7] at H
    have c7b0 : decide (x8_1 < t394) = false := decide_eq_false c7
    clear c7
    obtain rfl := Option.some.inj H
    go_wp2
    go_ret
    exact ⟨by first | rfl | (simp [*, errW_none, errW_some] <;> rfl), by repeat (first | (with_reducible first | exact HB.out | apply zG | apply zA | apply zF | refine zH ?_ GE393.out) | exact HB.out)⟩
theorem xB.calls (k : Nat) (a0_0 : Int) (a0_1 : Int) (a0_2 : Int) (a0_3 : Int) (A0_4 : Option Addr) (c0_4 : Nat) (l0_4 : List Int) (a1 : Int) (a2 : Bool) (r1 : Int) (r2 : Int) (r3 : Int) (w : World) (hr0_4 : Kd.C (Kd.int .i64) w A0_4 l0_4.length l0_4) (hc0_4 : l0_4.length ≤ c0_4) (h : xB.f k a0_0 a0_1 a0_2 a0_3 l0_4 a1 a2 = some (r1, r2, r3)) :
  Calls Try.prog 57 #[.agg #[.int .i64 a0_0, .int .i64 a0_1, .int .i64 a0_2, .int .i64 a0_3, .slice A0_4 l0_4.length c0_4], .int .i64 a1, .bool a2] w fun e w' => e = .returned (.tuple #[.int .i64 r1, .int .i64 r2, .int .i64 r3]) ∧ Below w.heap.size w w' := by
 have hu32 := Try.underlying32
 have hu30 := Try.underlying30
 have HR0_4 := zC.mk hr0_4
 have HC0_4 := zC.mk hc0_4
 clear hr0_4 hc0_4
 have HB := zC.mk (Below.refl w.heap.size w)
 have H : ((xK.f k a0_0 a0_1 a0_2 a0_3 l0_4).bind fun bt397 => (if bt397.2.2.2 = 0 then ((wC.f a1).bind fun t402 => (if t402 = true then (xB.j0 k a1 (!a2) bt397.1 bt397.2.1 bt397.2.2.1) else (xB.j0 k a1 true bt397.1 bt397.2.1 bt397.2.2.1))) else (some (0, 0, bt397.2.2.2)))) = some (r1, r2, r3) := h
 clear h
 replace H := Option.bind_eq_some_iff.mp H
 obtain ⟨⟨t397, t398, t399, t400⟩, A40, H⟩ := H
 replace H : (if t400 = 0 then ((wC.f a1).bind fun t402 => (if t402 = true then (xB.j0 k a1 (!a2) t397 t398 t399) else (xB.j0 k a1 true t397 t398 t399))) else (some (0, 0, t400))) = some (r1, r2, r3) := H
 have A4 := zC.mk A40
 clear A40
 have HX5 := zC.mk H
 clear H
 go_enter Try.func57, Try.ntmps57
 go_upto_if 18 with (first | ((with_reducible refine zQ (N := 3) rfl ?_); refine zO ?hg (N := 3) ?hd (cs := #[.int .i64 a0_0, .int .i64 a0_1, .int .i64 a0_2, .int .i64 a0_3, .slice A0_4 l0_4.length c0_4]) (t := 32) ?hr ?_; (case hd => rfl); (case hg => rfl); (case hr => first | (go_simp; done) | (go_simp; rfl)); intro gb396 hg w6 hbox hb; have n0_ := zC.mk (zL (by repeat (first | (with_reducible first | exact HB.out | apply zG | apply zA | apply zF) | exact HB.out)) hb); have n1_ := zC.mk (hbox); have n2_ := zC.mk ((by rw [hg]; exact (zM (by repeat (first | (with_reducible first | exact HB.out | apply zG | apply zA | apply zF) | exact HB.out))) : w.heap.size ≤ gb396)); have n3_ := n2_; clear HB; have HB := n0_; have BK396 := n1_; have GW396 := n2_; have GE396 := n3_; clear n0_ n1_ n2_ n3_; clear hb hbox hg; have hcz7_0 : w6.cell? ⟨gb396, 0, none⟩ = some (.int .i64 a0_0) := zB BK396.out 0; have hcz7_1 : w6.cell? ⟨gb396, 1, none⟩ = some (.int .i64 a0_1) := zB BK396.out 1; have hcz7_2 : w6.cell? ⟨gb396, 2, none⟩ = some (.int .i64 a0_2) := zB BK396.out 2; have hcz7_3 : w6.cell? ⟨gb396, 3, none⟩ = some (.int .i64 a0_3) := zB BK396.out 3; have hcz7_4 : w6.cell? ⟨gb396, 4, none⟩ = some (.slice A0_4 l0_4.length c0_4) := zB BK396.out 4; have hfz7_0 := zJ BK396.out 0; have hfz7_1 := zJ BK396.out 1; have hfz7_2 := zJ BK396.out 2; have hfz7_3 := zJ BK396.out 3; have hfz7_4 := zJ BK396.out 4) | ((with_reducible refine zP (f := 94) rfl ?_); refine zX (some 14) rfl rfl Try.func94 (by kernel_rfl) rfl #[.agg #[.int .i64 a0_0, .int .i64 a0_1, .int .i64 a0_2, .int .i64 a0_3, .slice A0_4 l0_4.length c0_4]] rfl (by (try simp only [List.map_toArray, List.map_cons, List.map_nil]); first | done | rfl) ?_; (with_reducible refine (xK.calls k a0_0 a0_1 a0_2 a0_3 _ _ l0_4 t397 t398 t399 t400 _ ?side1 ?side2 A4.out).mono ?_); (case side1 => repeat (first | exact (Kd.C_below HR0_4.out HB.out) | (with_reducible refine Kd.C_alloc ?_ _) | (with_reducible refine Kd.C_drewN ?_ _) | (with_reducible refine Kd.C_drew ?_))); (case side2 => exact HC0_4.out); rintro e w8 ⟨rfl, hb⟩; refine ⟨_, rfl, ?_⟩; have n0_ := zC.mk (zK (g := gb396) (o := .cells #[.int .i64 a0_0, .int .i64 a0_1, .int .i64 a0_2, .int .i64 a0_3, .slice A0_4 l0_4.length c0_4] 32 (0, 0)) (by (with_reducible repeat (first | refine zE ?_ _ | refine zI ?_ | refine zD ?_ _)); exact BK396.out) hb); have n1_ := zC.mk (zL (by repeat (first | (with_reducible first | exact HB.out | apply zG | apply zA | apply zF | refine zH ?_ GE396.out) | exact HB.out)) hb); clear BK396; clear HB; have BK396 := n0_; have HB := n1_; clear n0_ n1_; (try clear hb)) | ((with_reducible refine zQ (N := 9) rfl ?_); refine zO ?hg (N := 9) ?hd (cs := #[.int .i64 0, .int .i64 0, .int .i64 0]) (t := 30) ?hr ?_; (case hd => rfl); (case hg => rfl); (case hr => first | (go_simp; done) | (go_simp; rfl)); intro gb401 hg w9 hbox hb; have n0_ := zC.mk (zK (g := gb396) (o := .cells #[.int .i64 a0_0, .int .i64 a0_1, .int .i64 a0_2, .int .i64 a0_3, .slice A0_4 l0_4.length c0_4] 32 (0, 0)) (by (with_reducible repeat (first | refine zE ?_ _ | refine zI ?_ | refine zD ?_ _)); exact BK396.out) hb); have n1_ := zC.mk (zL (by repeat (first | (with_reducible first | exact HB.out | apply zG | apply zA | apply zF | refine zH ?_ GE396.out) | exact HB.out)) hb); have n2_ := zC.mk (hbox); have n3_ := zC.mk ((by rw [hg]; exact (zM (by repeat (first | (with_reducible first | exact HB.out | apply zG | apply zA | apply zF | refine zH ?_ GE396.out) | exact HB.out))) : w.heap.size ≤ gb401)); have n4_ := n3_; have n5_ := zC.mk ((by rw [hg]; exact Nat.ne_of_lt (zV (by (with_reducible repeat (first | refine zE ?_ _ | refine zI ?_ | refine zD ?_ _)); exact BK396.out)) : gb396 ≠ gb401)); have n6_ := zC.mk n5_.out.symm; clear BK396; clear HB; have BK396 := n0_; have HB := n1_; have BK401 := n2_; have GW401 := n3_; have GE401 := n4_; have NB396_401 := n5_; have NB401_396 := n6_; clear n0_ n1_ n2_ n3_ n4_ n5_ n6_; clear hb hbox hg; have hnb10 := NB401_396.out; have hnc10 := NB396_401.out; have hcz11_0 : w9.cell? ⟨gb401, 0, none⟩ = some (.int .i64 0) := zB BK401.out 0; have hcz11_1 : w9.cell? ⟨gb401, 1, none⟩ = some (.int .i64 0) := zB BK401.out 1; have hcz11_2 : w9.cell? ⟨gb401, 2, none⟩ = some (.int .i64 0) := zB BK401.out 2; have hfz11_0 := zJ BK401.out 0; have hfz11_1 := zJ BK401.out 1; have hfz11_2 := zJ BK401.out 2))
 have H := HX5.out
 clear HX5
 by_cases c12 : t400 = 0
 ·
  rw [if_pos c12] at H
  have c12b0 : (t400 == 0) = true := beq_iff_eq.mpr c12
  have c12b1 : (t400 != 0) = false := bne_eq_false_iff_eq.mpr c12
  clear c12
  (first | rw [c12b0] | (simp only [zY, zZ]; rw [c12b0]) | skip)
  have HC13 := zC.mk H
  clear H
  go_upto_region 4 with (fail)
  go_cut [26] (fun v26 wc => ∃ (kq : Nat) (x26_12 : Bool), v26 = .bool x26_12 ∧ zC (xB.j0 kq a1 x26_12 t397 t398 t399 = some (r1, r2, r3)) ∧ zC (kq ≤ k) ∧ zC (wc.heap[gb396]? = some (.cells #[.int .i64 a0_0, .int .i64 a0_1, .int .i64 a0_2, .int .i64 a0_3, (.slice A0_4 l0_4.length c0_4)] 32 (0, 0))) ∧ zC (wc.heap[gb401]? = some (.cells #[.int .i64 t397, .int .i64 t398, .int .i64 t399] 30 (0, 0))) ∧ zC (Below w.heap.size w wc))
  case first =>
   have H := HC13.out
   clear HC13
   replace H := Option.bind_eq_some_iff.mp H
   obtain ⟨t402, A140, H⟩ := H
   replace H : (if t402 = true then (xB.j0 k a1 (!a2) t397 t398 t399) else (xB.j0 k a1 true t397 t398 t399)) = some (r1, r2, r3) := H
   have A14 := zC.mk A140
   clear A140
   by_cases c15 : t402 = true
   ·
    subst c15
    have H1 : (xB.j0 k a1 (!a2) t397 t398 t399) = some (r1, r2, r3) := by rw [if_pos rfl] at H; exact H
    clear H
    have H := H1
    clear H1
    have H' := zC.mk H
    clear H
    go_wp2_with (first | ((with_reducible refine zP (f := 58) rfl ?_); refine zX (some 21) rfl rfl Try.func58 (by kernel_rfl) rfl #[.int .i64 a1] rfl (by (try simp only [List.map_toArray, List.map_cons, List.map_nil]); first | done | rfl) ?_; (with_reducible refine (wC.calls a1 true _ A14.out).mono ?_); rintro e w' ⟨rfl, ⟨nd, rfl⟩⟩; refine ⟨_, rfl, ?_⟩))
    go_meet
    case rel => exact ⟨_, (!a2), (by first | rfl | (simp; done) | (simp [*]; done)), H', ⟨by first | omega | exact Nat.le_refl _⟩, ⟨by (with_reducible repeat (first | refine zE ?_ _ | refine zI ?_ | refine zD ?_ _)); refine zU ?_ NB396_401.out _; (with_reducible repeat (first | refine zE ?_ _ | refine zI ?_ | refine zD ?_ _)); refine zU ?_ NB396_401.out _; (with_reducible repeat (first | refine zE ?_ _ | refine zI ?_ | refine zD ?_ _)); refine zU ?_ NB396_401.out _; (with_reducible repeat (first | refine zE ?_ _ | refine zI ?_ | refine zD ?_ _)); exact BK396.out⟩, ⟨by (with_reducible repeat (first | refine zE ?_ _ | refine zI ?_ | refine zD ?_ _)); refine zS (cs := #[.int .i64 t397, .int .i64 t398, .int .i64 0]) ?_ 2 _ rfl; (with_reducible repeat (first | refine zE ?_ _ | refine zI ?_ | refine zD ?_ _)); refine zS (cs := #[.int .i64 t397, .int .i64 0, .int .i64 0]) ?_ 1 _ rfl; (with_reducible repeat (first | refine zE ?_ _ | refine zI ?_ | refine zD ?_ _)); refine zS (cs := #[.int .i64 0, .int .i64 0, .int .i64 0]) ?_ 0 _ rfl; (with_reducible repeat (first | refine zE ?_ _ | refine zI ?_ | refine zD ?_ _)); exact BK401.out⟩, ⟨by repeat (first | (with_reducible first | exact HB.out | apply zG | apply zA | apply zF | refine zH ?_ GE396.out | refine zH ?_ GE401.out) | exact HB.out)⟩⟩
   ·
    replace c15 := Bool.eq_false_iff.mpr c15
    subst c15
    have H1 : (xB.j0 k a1 true t397 t398 t399) = some (r1, r2, r3) := by rw [if_neg (show ¬ (false = true) by decide)] at H; exact H
    clear H
    have H := H1
    clear H1
    have H' := zC.mk H
    clear H
    go_wp2_with (first | ((with_reducible refine zP (f := 58) rfl ?_); refine zX (some 21) rfl rfl Try.func58 (by kernel_rfl) rfl #[.int .i64 a1] rfl (by (try simp only [List.map_toArray, List.map_cons, List.map_nil]); first | done | rfl) ?_; (with_reducible refine (wC.calls a1 false _ A14.out).mono ?_); rintro e w' ⟨rfl, ⟨nd, rfl⟩⟩; refine ⟨_, rfl, ?_⟩))
    go_meet
    case rel => exact ⟨_, (true), (by first | rfl | (simp; done) | (simp [*]; done)), H', ⟨by first | omega | exact Nat.le_refl _⟩, ⟨by (with_reducible repeat (first | refine zE ?_ _ | refine zI ?_ | refine zD ?_ _)); refine zU ?_ NB396_401.out _; (with_reducible repeat (first | refine zE ?_ _ | refine zI ?_ | refine zD ?_ _)); refine zU ?_ NB396_401.out _; (with_reducible repeat (first | refine zE ?_ _ | refine zI ?_ | refine zD ?_ _)); refine zU ?_ NB396_401.out _; (with_reducible repeat (first | refine zE ?_ _ | refine zI ?_ | refine zD ?_ _)); exact BK396.out⟩, ⟨by (with_reducible repeat (first | refine zE ?_ _ | refine zI ?_ | refine zD ?_ _)); refine zS (cs := #[.int .i64 t397, .int .i64 t398, .int .i64 0]) ?_ 2 _ rfl; (with_reducible repeat (first | refine zE ?_ _ | refine zI ?_ | refine zD ?_ _)); refine zS (cs := #[.int .i64 t397, .int .i64 0, .int .i64 0]) ?_ 1 _ rfl; (with_reducible repeat (first | refine zE ?_ _ | refine zI ?_ | refine zD ?_ _)); refine zS (cs := #[.int .i64 0, .int .i64 0, .int .i64 0]) ?_ 0 _ rfl; (with_reducible repeat (first | refine zE ?_ _ | refine zI ?_ | refine zD ?_ _)); exact BK401.out⟩, ⟨by repeat (first | (with_reducible first | exact HB.out | apply zG | apply zA | apply zF | refine zH ?_ GE396.out | refine zH ?_ GE401.out) | exact HB.out)⟩⟩
  case rest =>
   clear HC13
   try clear c1
   try clear p2
   try clear c5
   try clear c9
   try clear c10
   try clear c12
   try clear c12b0
   try clear c12b1
   try clear c15
   try clear hcz11_0
   try clear hcz11_1
   try clear hcz11_2
   try clear hcz7_0
   try clear hcz7_1
   try clear hcz7_2
   try clear hcz7_3
   try clear hcz7_4
   try clear hfz11_0
   try clear hfz11_1
   try clear hfz11_2
   try clear hfz7_0
   try clear hfz7_1
   try clear hfz7_2
   try clear hfz7_3
   try clear hfz7_4
   obtain ⟨kq, x26_12, rfl, HA, HJ12, BK396, BK401, HB⟩ := hcut
   cases kq with
   | zero => exact absurd HA.out (by simp [xB.j0])
   | succ kj12 =>
    have H := HA.out
    clear HA
    simp only [xB.j0] at H
    by_cases c16 : x26_12 = true
    ·
     subst c16
     have H1 : (some (0, 0, 2)) = some (r1, r2, r3) := by rw [if_pos rfl] at H; exact H
     clear H
     have H := H1
     clear H1
     simp only [Option.some.injEq, Prod.mk.injEq] at H
     obtain ⟨rfl, rfl, rfl⟩ := H
     go_wp2
     go_ret3
     exact ⟨by first | rfl | (simp [*, errW_none, errW_some] <;> rfl), by repeat (first | (with_reducible first | exact HB.out | apply zG | apply zA | apply zF | refine zH ?_ GE396.out | refine zH ?_ GE401.out) | exact HB.out)⟩
    ·
     replace c16 := Bool.eq_false_iff.mpr c16
     subst c16
     have H1 : ((yR.f kj12 t397 t398 t399 a1).bind fun t403 => (if t403 < 0 then (some (0, 0, 4)) else ((xE.f kj12 t397 t398 t399).bind fun t404 => (some (t404, t403, 0))))) = some (r1, r2, r3) := by rw [if_neg (show ¬ (false = true) by decide)] at H; exact H
     clear H
     have H := H1
     clear H1
     replace H := Option.bind_eq_some_iff.mp H
     obtain ⟨t403, A170, H⟩ := H
     replace H : (if t403 < 0 then (some (0, 0, 4)) else ((xE.f kj12 t397 t398 t399).bind fun t404 => (some (t404, t403, 0)))) = some (r1, r2, r3) := H
     have A17 := zC.mk A170
     clear A170
     have HX18 := zC.mk H
     clear H
     have hnb19 := NB401_396.out
     have hnc19 := NB396_401.out
     have hcz20_0 : wc.cell? ⟨gb401, 0, none⟩ = some (.int .i64 t397) := zB BK401.out 0
     have hcz20_1 : wc.cell? ⟨gb401, 1, none⟩ = some (.int .i64 t398) := zB BK401.out 1
     have hcz20_2 : wc.cell? ⟨gb401, 2, none⟩ = some (.int .i64 t399) := zB BK401.out 2
     have hfz20_0 := zJ BK401.out 0
     have hfz20_1 := zJ BK401.out 1
     have hfz20_2 := zJ BK401.out 2
     go_upto_if 31 with (first | ((with_reducible refine zP (f := 95) rfl ?_); refine zX (some 29) rfl rfl Try.func95 (by kernel_rfl) rfl #[.agg #[.int .i64 t397, .int .i64 t398, .int .i64 t399], .int .i64 a1] rfl (by (try simp only [List.map_toArray, List.map_cons, List.map_nil]); first | done | rfl) ?_; (with_reducible refine (yR.calls kj12 t397 t398 t399 a1 t403 _ A17.out).mono ?_); rintro e w21 ⟨rfl, hb⟩; refine ⟨_, rfl, ?_⟩; have n0_ := zC.mk (zK (g := gb396) (o := .cells #[.int .i64 a0_0, .int .i64 a0_1, .int .i64 a0_2, .int .i64 a0_3, .slice A0_4 l0_4.length c0_4] 32 (0, 0)) (by (with_reducible repeat (first | refine zE ?_ _ | refine zI ?_ | refine zD ?_ _)); exact BK396.out) hb); have n1_ := zC.mk (zK (g := gb401) (o := .cells #[.int .i64 t397, .int .i64 t398, .int .i64 t399] 30 (0, 0)) (by (with_reducible repeat (first | refine zE ?_ _ | refine zI ?_ | refine zD ?_ _)); exact BK401.out) hb); have n2_ := zC.mk (zL (by repeat (first | (with_reducible first | exact HB.out | apply zG | apply zA | apply zF | refine zH ?_ GE396.out | refine zH ?_ GE401.out) | exact HB.out)) hb); clear BK396; clear BK401; clear HB; have BK396 := n0_; have BK401 := n1_; have HB := n2_; clear n0_ n1_ n2_; (try clear hb)))
     have H := HX18.out
     clear HX18
     by_cases c22 : t403 < 0
     ·
      rw [if_pos c22] at H
      have c22b0 : decide (t403 < 0) = true := decide_eq_true c22
      clear c22
      (first | rw [c22b0] | (simp only [zY, zZ]; rw [c22b0]) | skip)
      simp only [Option.some.injEq, Prod.mk.injEq] at H
      obtain ⟨rfl, rfl, rfl⟩ := H
      go_wp2
      go_ret3
      exact ⟨by first | rfl | (simp [*, errW_none, errW_some] <;> rfl), by repeat (first | (with_reducible first | exact HB.out | apply zG | apply zA | apply zF | refine zH ?_ GE396.out | refine zH ?_ GE401.out) | exact HB.out)⟩
     ·
      rw [if_neg c22] at H
      have c22b0 : decide (t403 < 0) = false := decide_eq_false c22
      clear c22
      (first | rw [c22b0] | (simp only [zY, zZ]; rw [c22b0]) | skip)
      replace H := Option.bind_eq_some_iff.mp H
      obtain ⟨t404, A230, H⟩ := H
      replace H : (some (t404, t403, 0)) = some (r1, r2, r3) := H
      have A23 := zC.mk A230
      clear A230
      simp only [Option.some.injEq, Prod.mk.injEq] at H
      obtain ⟨rfl, rfl, rfl⟩ := H
      have hnb24 := NB401_396.out
      have hnc24 := NB396_401.out
      have hcz25_0 : w21.cell? ⟨gb401, 0, none⟩ = some (.int .i64 t397) := zB BK401.out 0
      have hcz25_1 : w21.cell? ⟨gb401, 1, none⟩ = some (.int .i64 t398) := zB BK401.out 1
      have hcz25_2 : w21.cell? ⟨gb401, 2, none⟩ = some (.int .i64 t399) := zB BK401.out 2
      have hfz25_0 := zJ BK401.out 0
      have hfz25_1 := zJ BK401.out 1
      have hfz25_2 := zJ BK401.out 2
      go_wp2_with (first | ((with_reducible refine zP (f := 96) rfl ?_); refine zX (some 33) rfl rfl Try.func96 (by kernel_rfl) rfl #[.agg #[.int .i64 t397, .int .i64 t398, .int .i64 t399]] rfl (by (try simp only [List.map_toArray, List.map_cons, List.map_nil]); first | done | rfl) ?_; (with_reducible refine (xE.calls kj12 t397 t398 t399 t404 _ A23.out).mono ?_); rintro e w26 ⟨rfl, hb⟩; refine ⟨_, rfl, ?_⟩; have n0_ := zC.mk (zK (g := gb396) (o := .cells #[.int .i64 a0_0, .int .i64 a0_1, .int .i64 a0_2, .int .i64 a0_3, .slice A0_4 l0_4.length c0_4] 32 (0, 0)) (by (with_reducible repeat (first | refine zE ?_ _ | refine zI ?_ | refine zD ?_ _)); exact BK396.out) hb); have n1_ := zC.mk (zK (g := gb401) (o := .cells #[.int .i64 t397, .int .i64 t398, .int .i64 t399] 30 (0, 0)) (by (with_reducible repeat (first | refine zE ?_ _ | refine zI ?_ | refine zD ?_ _)); exact BK401.out) hb); have n2_ := zC.mk (zL (by repeat (first | (with_reducible first | exact HB.out | apply zG | apply zA | apply zF | refine zH ?_ GE396.out | refine zH ?_ GE401.out) | exact HB.out)) hb); clear BK396; clear BK401; clear HB; have BK396 := n0_; have BK401 := n1_; have HB := n2_; clear n0_ n1_ n2_; (try clear hb)))
      go_ret3
      exact ⟨by first | rfl | (simp [*, errW_none, errW_some] <;> rfl), by repeat (first | (with_reducible first | exact HB.out | apply zG | apply zA | apply zF | refine zH ?_ GE396.out | refine zH ?_ GE401.out) | exact HB.out)⟩
 ·
  rw [if_neg c12] at H
  have c12b0 : (t400 == 0) = false := beq_eq_false_iff_ne.mpr c12
  have c12b1 : (t400 != 0) = true := bne_iff_ne.mpr c12
  (first | rw [c12b0] | (simp only [zY, zZ]; rw [c12b0]) | skip)
  simp only [Option.some.injEq, Prod.mk.injEq] at H
  obtain ⟨rfl, rfl, rfl⟩ := H
  go_wp2
  go_ret3
  exact ⟨by first | rfl | (simp [*, errW_none, errW_some] <;> rfl), by repeat (first | (with_reducible first | exact HB.out | apply zG | apply zA | apply zF | refine zH ?_ GE396.out | refine zH ?_ GE401.out) | exact HB.out)⟩
theorem wK.calls (a0 : Int) (r : Bool) (w : World) (h : wK.f a0 = some r) :
  Calls Try.prog 59 #[.int .i64 a0] w fun e w' => e = .returned (.bool r) ∧ Drawn0 w w' := by
 have H : ((xP.f a0 1 100).bind fun t405 => (some t405)) = some r := h
 clear h
 replace H := Option.bind_eq_some_iff.mp H
 obtain ⟨t405, A20, H⟩ := H
 replace H : (some t405) = some r := H
 have A2 := zC.mk A20
 clear A20
 obtain rfl := Option.some.inj H
 go_enter Try.func59, Try.ntmps59
 go_wp2_with (first | ((with_reducible refine zP (f := 97) rfl ?_); refine zX (some 4) rfl rfl Try.func97 (by kernel_rfl) rfl #[.int .i64 a0, .int .i64 1, .int .i64 100] rfl (by (try simp only [List.map_toArray, List.map_cons, List.map_nil]); first | done | rfl) ?_; (with_reducible refine (xP.calls a0 1 100 t405 _ A2.out).mono ?_); rintro e w' ⟨rfl, ⟨nd, rfl⟩⟩; refine ⟨_, rfl, ?_⟩))
 go_ret
 exact ⟨by first | rfl | (simp; done) | (simp [*]; done), by repeat (first | exact Drawn0.refl _ | apply Drawn0.step)⟩
theorem yP.calls (k : Nat) (a0 : Int) (a1 : Int) (a2 : Int) (a3 : Int) (r : List Int) (w : World) (h : yP.f k a0 a1 a2 a3 = some r) :
  Calls Try.prog 60 #[.int .i64 a0, .int .i64 a1, .int .i64 a2, .int .i64 a3] w fun e w' => ∃ v0_ : Value, e = .returned (v0_) ∧ Kd.R (Kd.int .i64) 2 w' w.heap.size (fun _ => True) v0_ r ∧ Below w.heap.size w w' := by
 have HB := zC.mk (Below.refl w.heap.size w)
 have H : (yP.l0 k a0 a1 a2 a3 (([0] : List Int)) 1) = some r := h
 clear h
 obtain ⟨y406, hy406⟩ : ∃ y_ : List Int, y_ = (([0] : List Int)) := ⟨_, rfl⟩
 replace H : (yP.l0 k a0 a1 a2 a3 y406 1) = some r := by first | (rw [hy406]; with_reducible exact H) | (have H2_ := (Option.bind_some _ _).symm.trans H; rw [hy406]; with_reducible exact H2_) | (have H2_ := (Option.bind_some _ _).symm.trans H; with_reducible exact H2_) | with_reducible exact H | (rw [hy406]; exact H) | exact H
 have Ny406 := zC.mk hy406
 clear hy406
 have H' := zC.mk H
 clear H
 go_enter Try.func60, Try.ntmps60
 go_wp2_with (first | ((with_reducible refine zQ (N := 12) rfl ?_); refine Kd.R_lit (Kd.int .i64) _ 2 ?hg (N := 12) ?hd (xs := ([0] : List Int)) (inner := [.int .i64 0]) (ok := fun _ => True) (okp := fun _ => True) ?hr ?hp (fun _ hk => hk) trivial (Below.refl _ _) (Nat.le_refl _) (by simp) ?_; (case hd => rfl); (case hg => rfl); (case hr => first | (go_simp; done) | (go_simp; rfl)); (case hp => exact (Reps.one (show Kd.M (Kd.int .i64) _ _ _ 0 [.int .i64 0] from rfl) (Reps.none _ _))); intro v407 w5 ho6 hb hg_ hnew_; clear hg_ hnew_; (first | rw [← Ny406.out] at ho6 | (simp only [Int.reduceToNat] at ho6; rw [← Ny406.out] at ho6)); have n0_ := zC.mk (Kd.R_lower ho6 (zM (by repeat (first | (with_reducible first | exact HB.out | apply zG | apply zA | apply zF) | exact HB.out)))); have n1_ := zC.mk (zL (by repeat (first | (with_reducible first | exact HB.out | apply zG | apply zA | apply zF) | exact HB.out)) hb); clear HB; have HO408 := n0_; have HB := n1_; clear n0_ n1_; clear hb ho6))
 go_loopg [9, 10] k (fun kq v9 v10 w' => ∃ (x9_1 : List Int) (x10_1 : Int), v10 = .int .i64 x10_1 ∧ zC (yP.l0 kq a0 a1 a2 a3 x9_1 x10_1 = some r) ∧ zC (kq ≤ k) ∧ zC (Kd.R (Kd.int .i64) 2 w' w.heap.size (fun _ => True) v9 x9_1) ∧ zC (Below w.heap.size w w'))
 case atStart => exact ⟨(y406), (1), (by first | rfl | (simp; done) | (simp [*]; done)), H', ⟨Nat.le_refl _⟩, ⟨by (with_reducible repeat (first | apply Kd.R_alloc | apply Kd.R_drewN | apply Kd.R_drew)); exact HO408.out⟩, ⟨by repeat (first | (with_reducible first | exact HB.out | apply zG | apply zA | apply zF) | exact HB.out)⟩⟩
 case round =>
  clear H'
  try clear p2
  try clear c6
  obtain ⟨x9_1, x10_1, rfl, HA, HK1, HO_9, HB⟩ := hrel
  cases gk with
  | zero => exact absurd HA.out (by simp [yP.l0])
  | succ k1 =>
   have H := HA.out
   clear HA
   simp only [yP.l0] at H
   by_cases c7 : x10_1 < a3
   ·
    rw [if_pos c7] at H
    have c7b0 : decide (x10_1 < a3) = true := decide_eq_true c7
    clear c7
    obtain ⟨ji8, hji8⟩ : ∃ j_ : Int, (wrap64 (x10_1 - 1)) = j_ := ⟨_, rfl⟩
    replace H : (if 0 ≤ (ji8) then (if (ji8) < (x9_1.length : Int) then ((wG.f (wrap64 ((wrap64 (x10_1 * a1)) - (wrap64 ((rd x9_1 (ji8)) + a2)))) a0).bind fun t410 => (if x9_1.length < 17592186044416 then (yP.l0 k1 a0 a1 a2 a3 (x9_1 ++ [wrap64 ((wrap64 ((rd x9_1 (ji8)) + a2)) + t410)]) (wrap64 (x10_1 + 1))) else (none))) else (none)) else (none)) = some r := by first | (rw [hji8] at H; exact H) | (simp only [hji8] at H ⊢; exact H)
    have hji8w : (IntKind.i64.wrap (x10_1 - 1)) = ji8 := (zY _).trans hji8
    by_cases c9 : 0 ≤ (ji8)
    ·
     rw [if_pos c9] at H
     have c9b0 : decide (0 ≤ (ji8)) = true := decide_eq_true c9
     clear c9
     by_cases c10 : (ji8) < (x9_1.length : Int)
     ·
      rw [if_pos c10] at H
      have c10b0 : decide ((ji8) < (x9_1.length : Int)) = true := decide_eq_true c10
      clear c10
      replace H := Option.bind_eq_some_iff.mp H
      obtain ⟨t410, A110, H⟩ := H
      replace H : (if x9_1.length < 17592186044416 then (yP.l0 k1 a0 a1 a2 a3 (x9_1 ++ [wrap64 ((wrap64 ((rd x9_1 (ji8)) + a2)) + t410)]) (wrap64 (x10_1 + 1))) else (none)) = some r := H
      have A11 := zC.mk A110
      clear A110
      by_cases c12 : x9_1.length < 17592186044416
      ·
       rw [if_pos c12] at H
       have LMc12 := zC.mk c12
       clear c12
       obtain ⟨y411, hy411⟩ : ∃ y_ : List Int, y_ = (x9_1 ++ [wrap64 ((wrap64 ((rd x9_1 (ji8)) + a2)) + t410)]) := ⟨_, rfl⟩
       replace H : (yP.l0 k1 a0 a1 a2 a3 y411 (wrap64 (x10_1 + 1))) = some r := by first | (rw [hy411]; with_reducible exact H) | (have H2_ := (Option.bind_some _ _).symm.trans H; rw [hy411]; with_reducible exact H2_) | (have H2_ := (Option.bind_some _ _).symm.trans H; with_reducible exact H2_) | with_reducible exact H | (rw [hy411]; exact H) | exact H
       have Ny411 := zC.mk hy411
       clear hy411
       have H' := zC.mk H
       clear H
       obtain ⟨Ao13, co13, eo13⟩ := Kd.R_slice HO_9.out
       subst eo13
       have p409 : 0 ≤ ((ji8) : Int) := of_decide_eq_true (by first | (with_reducible assumption) | assumption)
       have q409 : (ji8) < (x9_1.length : Int) := of_decide_eq_true (by first | (with_reducible assumption) | assumption)
       obtain ⟨ad409, e409, hx409_0⟩ := Kd.at_int (Kd.R_reads' HO_9.out).2.2 (ji8) p409 q409
       cases e409
       replace p409 := eq_true p409
       replace q409 := eq_true q409
       go_wp2_with (first | ((with_reducible refine zP (f := 98) rfl ?_); refine zX (some 33) rfl rfl Try.func98 (by kernel_rfl) rfl #[.int .i64 (wrap64 ((wrap64 (x10_1 * a1)) - (wrap64 ((rd x9_1 (ji8)) + a2)))), .int .i64 a0] rfl (by (try simp only [List.map_toArray, List.map_cons, List.map_nil]); first | done | (simp only [hji8]; rfl) | rfl | (simp only [List.length_drop, List.length_take]; rfl)) ?_; (with_reducible refine (wG.calls (wrap64 ((wrap64 (x10_1 * a1)) - (wrap64 ((rd x9_1 (ji8)) + a2)))) a0 t410 _ A11.out).mono ?_); rintro e w' ⟨rfl, ⟨nd, rfl⟩⟩; refine ⟨_, rfl, ?_⟩) | ((with_reducible refine gate_builtin (b := .append) (xs := #[.tmp 25, .tmp 35]) rfl ?_); at_builtin; refine Kd.R_append (Kd.int .i64) (w0 := w) w.heap.size rfl (.tmp 25) (.tmp 35) 24 2 (.int .i64 0) 8 rfl Try.underlying24 info2 rfl (by decide) (by omega) (.slice (some ad409) x9_1.length co13) x9_1 (wrap64 ((wrap64 ((rd x9_1 (ji8)) + a2)) + t410)) [.int .i64 (wrap64 ((wrap64 ((rd x9_1 (ji8)) + a2)) + t410))] (fun _ => True) (fun _ => False) rfl rfl ?aP (fun _ hk => hk.elim) ?aF ?aO ?aB ?aS ?aL ?_; (case aP => exact rfl); (case aB => exact (by repeat (first | (with_reducible first | exact HB.out | apply zG | apply zA | apply zF) | exact HB.out))); (case aF => exact (fun _ _ => trivial)); (case aO => exact (by (with_reducible repeat (first | apply Kd.R_alloc | apply Kd.R_drewN | apply Kd.R_drew)); exact HO_9.out)); (case aS => exact (zM (by repeat (first | (with_reducible first | exact HB.out | apply zG | apply zA | apply zF) | exact HB.out)))); (case aL => have := LMc12.out; omega); intro v412 w14 ho hb hg hat; rw [← Ny411.out] at ho; have n0_ := zC.mk (hb); have n1_ := zC.mk (ho); clear HB; clear HO_9; have HB := n0_; have HO413 := n1_; clear n0_ n1_; clear ho hb hg hat))
       go_roundg k1
       case measure => have := HK1.out; omega
       case rel => exact ⟨(y411), (wrap64 (x10_1 + 1)), (by first | rfl | (simp; done) | (simp [*]; done)), H', ⟨by have := HK1.out; omega⟩, ⟨by (with_reducible repeat (first | apply Kd.R_alloc | apply Kd.R_drewN | apply Kd.R_drew)); exact HO413.out⟩, ⟨by repeat (first | (with_reducible first | exact HB.out | apply zG | apply zA | apply zF) | exact HB.out)⟩⟩
      ·
       rw [if_neg c12] at H
       exact absurd H (by simp)
     ·
      rw [if_neg c10] at H
      exact absurd H (by simp)
    ·
     rw [if_neg c9] at H
     exact absurd H (by simp)
   ·
    rw [if_neg c7] at H
    have c7b0 : decide (x10_1 < a3) = false := decide_eq_false c7
    clear c7
    obtain rfl := Option.some.inj H
    go_wp2
    go_ret
    exact ⟨_, by first | rfl | (simp [*, errW_none, errW_some] <;> rfl), by (with_reducible repeat (first | apply Kd.R_alloc | apply Kd.R_drewN | apply Kd.R_drew)); exact HO_9.out, by repeat (first | (with_reducible first | exact HB.out | apply zG | apply zA | apply zF) | exact HB.out)⟩
def yS.T1 : Bool × List (List Nat × List Nat) := (true, [([], []), ([], []), ([], []), ([2], [2]), ([3, 3], [3]), ([4], [4]), ([5, 4, 4], [4, 5]), ([4, 6], [4, 6]), ([0, 1, 7, 6], [0, 1, 7]), ([8], [8]), ([9], [9]), ([9], [9]), ([9], [9]), ([10, 8, 0, 1, 2, 3, 4, 5, 6, 7, 8, 9, 10], [10]), ([11, 13, 0, 1, 2, 3, 4, 5, 6, 7, 8, 9, 10, 11, 13], [11]), ([12, 14, 0, 1, 2, 3, 4, 5, 6, 7, 8, 9, 10, 11, 12, 13, 14], [12])])
def yS.B1 : List Nat := [0, 0, 0, 4, 12, 28, 60, 124, 255, 511, 1023, 1023, 1023, 2047, 12287, 32767]
theorem yS.tab1 : rtab .any (opsOf Try.f18 1) = yS.T1 := by kernel_rfl
theorem yS.bits1 : waitsOk yS.T1.2 yS.B1 = true := by kernel_rfl
theorem yS.calls (k : Nat) (a0_0 : Int) (a0_1 : Int) (a0_2 : Int) (a0_3 : Int) (A0_4 : Option Addr) (c0_4 : Nat) (l0_4 : List Int) (a1 : Int) (a2 : Int) (a3 : Int) (r1 : List Int) (r2 : Int) (w : World) (hr0_4 : Kd.C (Kd.int .i64) w A0_4 l0_4.length l0_4) (hc0_4 : l0_4.length ≤ c0_4) (h : yS.f k a0_0 a0_1 a0_2 a0_3 l0_4 a1 a2 a3 = some (r1, r2)) :
  Calls Try.prog 18 #[.agg #[.int .i64 a0_0, .int .i64 a0_1, .int .i64 a0_2, .int .i64 a0_3, .slice A0_4 l0_4.length c0_4], .int .i64 a1, .int .i64 a2, .int .i64 a3] w fun e w' => ∃ v0_ : Value, e = .returned (.tuple #[v0_, .int .i64 r2]) ∧ Kd.R (Kd.int .i64) 2 w' w.heap.size (fun _ => True) v0_ r1 ∧ Below w.heap.size w w' := by
 have hu32 := Try.underlying32
 have HR0_4 := zC.mk hr0_4
 have HC0_4 := zC.mk hc0_4
 clear hr0_4 hc0_4
 have HB := zC.mk (Below.refl w.heap.size w)
 have H : ((wC.f a2).bind fun t415 => (if t415 = true then ((wK.f a3).bind fun t416 => ((xB.f k a0_0 a0_1 a0_2 a0_3 l0_4 a1 t416).bind fun bt417 => (if bt417.2.2 = 0 then ((yP.f k bt417.1 bt417.2.1 a2 a3).bind fun t420 => (some (t420, 0))) else (some (([] : List Int), bt417.2.2))))) else ((xB.f k a0_0 a0_1 a0_2 a0_3 l0_4 a1 false).bind fun bt423 => (if bt423.2.2 = 0 then ((yP.f k bt423.1 bt423.2.1 a2 a3).bind fun t426 => (some (t426, 0))) else (some (([] : List Int), bt423.2.2)))))) = some (r1, r2) := h
 clear h
 replace H := Option.bind_eq_some_iff.mp H
 obtain ⟨t415, A50, H⟩ := H
 replace H : (if t415 = true then ((wK.f a3).bind fun t416 => ((xB.f k a0_0 a0_1 a0_2 a0_3 l0_4 a1 t416).bind fun bt417 => (if bt417.2.2 = 0 then ((yP.f k bt417.1 bt417.2.1 a2 a3).bind fun t420 => (some (t420, 0))) else (some (([] : List Int), bt417.2.2))))) else ((xB.f k a0_0 a0_1 a0_2 a0_3 l0_4 a1 false).bind fun bt423 => (if bt423.2.2 = 0 then ((yP.f k bt423.1 bt423.2.1 a2 a3).bind fun t426 => (some (t426, 0))) else (some (([] : List Int), bt423.2.2))))) = some (r1, r2) := H
 have A5 := zC.mk A50
 clear A50
 by_cases c6 : t415 = true
 ·
  subst c6
  have H1 : ((wK.f a3).bind fun t416 => ((xB.f k a0_0 a0_1 a0_2 a0_3 l0_4 a1 t416).bind fun bt417 => (if bt417.2.2 = 0 then ((yP.f k bt417.1 bt417.2.1 a2 a3).bind fun t420 => (some (t420, 0))) else (some (([] : List Int), bt417.2.2))))) = some (r1, r2) := by rw [if_pos rfl] at H; exact H
  clear H
  have H := H1
  clear H1
  replace H := Option.bind_eq_some_iff.mp H
  obtain ⟨t416, A70, H⟩ := H
  replace H : ((xB.f k a0_0 a0_1 a0_2 a0_3 l0_4 a1 t416).bind fun bt417 => (if bt417.2.2 = 0 then ((yP.f k bt417.1 bt417.2.1 a2 a3).bind fun t420 => (some (t420, 0))) else (some (([] : List Int), bt417.2.2)))) = some (r1, r2) := H
  have A7 := zC.mk A70
  clear A70
  replace H := Option.bind_eq_some_iff.mp H
  obtain ⟨⟨t417, t418, t419⟩, A80, H⟩ := H
  replace H : (if t419 = 0 then ((yP.f k t417 t418 a2 a3).bind fun t420 => (some (t420, 0))) else (some (([] : List Int), t419))) = some (r1, r2) := H
  have A8 := zC.mk A80
  clear A80
  have HX9 := zC.mk H
  clear H
  go_enter Try.func18, Try.ntmps18
  try go_wp2_with (first | ((with_reducible refine zQ (N := 4) rfl ?_); refine zO ?hg (N := 4) ?hd (cs := #[.int .i64 a0_0, .int .i64 a0_1, .int .i64 a0_2, .int .i64 a0_3, .slice A0_4 l0_4.length c0_4]) (t := 32) ?hr ?_; (case hd => rfl); (case hg => rfl); (case hr => first | (go_simp; done) | (go_simp; rfl)); intro gb414 hg w10 hbox hb; have n0_ := zC.mk (zL (by repeat (first | (with_reducible first | exact HB.out | apply zG | apply zA | apply zF) | exact HB.out)) hb); have n1_ := zC.mk (hbox); have n2_ := zC.mk ((by rw [hg]; exact (zM (by repeat (first | (with_reducible first | exact HB.out | apply zG | apply zA | apply zF) | exact HB.out))) : w.heap.size ≤ gb414)); have n3_ := n2_; clear HB; have HB := n0_; have BK414 := n1_; have GW414 := n2_; have GE414 := n3_; clear n0_ n1_ n2_ n3_; clear hb hbox hg))
  have n0_ := zC.mk (zI BK414.out)
  have n1_ := zC.mk (zF HB.out)
  clear BK414
  clear HB
  have BK414 := n0_
  have HB := n1_
  clear n0_ n1_
  refine start_ (n := 16) (S := fun w' => w'.cell? ⟨gb414, 0, none⟩ = some (.int .i64 a0_0) ∧ w'.cell? ⟨gb414, 1, none⟩ = some (.int .i64 a0_1) ∧ w'.cell? ⟨gb414, 2, none⟩ = some (.int .i64 a0_2) ∧ w'.cell? ⟨gb414, 3, none⟩ = some (.int .i64 a0_3) ∧ w'.cell? ⟨gb414, 4, none⟩ = some (.slice A0_4 l0_4.length c0_4)) (ds := []) #[false, false, false, false, false, false, false, false, false, false, false, false, false, false, false, false] (by kernel_rfl) rfl rfl ⟨zB BK414.out 0, zB BK414.out 1, zB BK414.out 2, zB BK414.out 3, zB BK414.out 4⟩ (fun hHeld => ?_); refine yE yS.tab1 yS.bits1 (fun HT_ HW_ => ?_)
  generalize w10.drew = w11 at BK414 HB hHeld ⊢
  refine zR (i := 1) (N := some 15) (v := ?_) (a' := ?_) #[false, true, false, false, false, false, false, false, false, false, false, false, false, false, false, false] rfl rfl (zN HT_.out (by kernel_rfl)) (fun _ _ _ h => h) (Or.inl ⟨by rfl, ?_⟩) ?_ ?_
  rotate_left
  ·
   intro w'
   go_simp
   with_reducible rfl
  rotate_left
  ·
   go_simp
   rfl
  refine zR (i := 2) (N := some 16) (v := ?_) (a' := ?_) #[false, true, true, false, false, false, false, false, false, false, false, false, false, false, false, false] rfl rfl (zN HT_.out (by kernel_rfl)) (fun _ _ _ h => h) (Or.inl ⟨by rfl, ?_⟩) ?_ ?_
  rotate_left
  ·
   intro w'
   go_simp
   with_reducible rfl
  rotate_left
  ·
   go_simp
   rfl
  refine yC (i := 0) (N := some 14) (v := ?_) (a' := ?_) #[true, true, true, false, false, false, false, false, false, false, false, false, false, false, false, false] rfl rfl (zW HT_.out HW_.out (by kernel_rfl)) (fun _ _ _ h => h) (Or.inl ⟨by rfl, ?_⟩) hHeld ?_ ?_
  rotate_left
  ·
   rintro w' ⟨s0, s1, s2, s3, s4⟩
   go_simp
   with_reducible rfl
  rotate_left
  ·
   go_simp
   rfl
  refine one_ (i := 3) (N := some 17) #[true, true, true, true, false, false, false, false, false, false, false, false, false, false, false, false] rfl rfl (yB HT_.out (by kernel_rfl)) (by decide) (fun K hK => ?_)
  refine yD Try.func58 (by kernel_rfl) rfl #[.int .i64 a2] (by rfl) rfl rfl (by (try simp only [List.map_toArray, List.map_cons, List.map_nil]); first | done | rfl) ?_
  with_reducible refine (wC.calls a2 true _ A5.out).mono ?_
  rintro e w' ⟨rfl, ⟨nd, rfl⟩⟩
  refine ⟨_, rfl, ?_⟩
  refine hK.out _ _ ⟨zB BK414.out 0, zB BK414.out 1, zB BK414.out 2, zB BK414.out 3, zB BK414.out 4⟩ (fun hHeld => ?_)
  clear hK K
  refine yA (a' := ?_) ?_ ?_
  rotate_left
  ·
   show Act.put _ (some 17) _ = _
   go_simp
   rfl
  refine zR (i := 4) (N := some 18) (v := ?_) (a' := ?_) #[true, true, true, true, true, false, false, false, false, false, false, false, false, false, false, false] rfl rfl (zN HT_.out (by kernel_rfl)) (fun _ _ _ h => h) (Or.inl ⟨by rfl, ?_⟩) ?_ ?_
  rotate_left
  ·
   intro w'
   go_simp
   with_reducible rfl
  rotate_left
  ·
   go_simp
   rfl
  refine zR (i := 5) (N := some 19) (v := ?_) (a' := ?_) #[true, true, true, true, true, true, false, false, false, false, false, false, false, false, false, false] rfl rfl (zN HT_.out (by kernel_rfl)) (fun _ _ _ h => h) (Or.inl ⟨by rfl, ?_⟩) ?_ ?_
  rotate_left
  ·
   intro w'
   go_simp
   with_reducible rfl
  rotate_left
  ·
   go_simp
   rfl
  refine one_ (i := 6) (N := some 20) #[true, true, true, true, true, true, true, false, false, false, false, false, false, false, false, false] rfl rfl (yB HT_.out (by kernel_rfl)) (by decide) (fun K hK => ?_)
  refine yD Try.func59 (by kernel_rfl) rfl #[.int .i64 a3] (by rfl) rfl rfl (by (try simp only [List.map_toArray, List.map_cons, List.map_nil]); first | done | rfl) ?_
  with_reducible refine (wK.calls a3 t416 _ A7.out).mono ?_
  rintro e w' ⟨rfl, ⟨nd, rfl⟩⟩
  refine ⟨_, rfl, ?_⟩
  refine hK.out _ _ ⟨zB BK414.out 0, zB BK414.out 1, zB BK414.out 2, zB BK414.out 3, zB BK414.out 4⟩ (fun hHeld => ?_)
  clear hK K
  refine yA (a' := ?_) ?_ ?_
  rotate_left
  ·
   show Act.put _ (some 20) _ = _
   go_simp
   rfl
  refine zR (i := 7) (N := some 21) (v := ?_) (a' := ?_) #[true, true, true, true, true, true, true, true, false, false, false, false, false, false, false, false] rfl rfl (zN HT_.out (by kernel_rfl)) (fun _ _ _ h => h) (Or.inl ⟨by rfl, ?_⟩) ?_ ?_
  rotate_left
  ·
   intro w'
   go_simp
   with_reducible rfl
  rotate_left
  ·
   go_simp
   rfl
  refine one_ (i := 8) (N := some 22) #[true, true, true, true, true, true, true, true, true, false, false, false, false, false, false, false] rfl rfl (yB HT_.out (by kernel_rfl)) (by decide) (fun K hK => ?_)
  refine yD Try.func57 (by kernel_rfl) rfl #[.agg #[.int .i64 a0_0, .int .i64 a0_1, .int .i64 a0_2, .int .i64 a0_3, .slice A0_4 l0_4.length c0_4], .int .i64 a1, .bool t416] (by rfl) rfl rfl (by (try simp only [List.map_toArray, List.map_cons, List.map_nil]); first | done | rfl) ?_
  with_reducible refine (xB.calls k a0_0 a0_1 a0_2 a0_3 _ _ l0_4 a1 t416 t417 t418 t419 _ ?side1 ?side2 A8.out).mono ?_
  (case side1 => repeat (first | exact (Kd.C_below HR0_4.out (by repeat (first | (with_reducible first | exact HB.out | apply zG | apply zA | apply zF | refine zH ?_ GE414.out) | exact HB.out))) | (with_reducible refine Kd.C_alloc ?_ _) | (with_reducible refine Kd.C_drewN ?_ _) | (with_reducible refine Kd.C_drew ?_)))
  (case side2 => exact HC0_4.out)
  rintro e w12 ⟨rfl, hb⟩
  refine ⟨_, rfl, ?_⟩
  have n0_ := zC.mk (zK (g := gb414) (o := .cells #[.int .i64 a0_0, .int .i64 a0_1, .int .i64 a0_2, .int .i64 a0_3, .slice A0_4 l0_4.length c0_4] 32 (0, 0)) (by (with_reducible repeat (first | refine zE ?_ _ | refine zI ?_ | refine zD ?_ _)); exact BK414.out) hb)
  have n1_ := zC.mk (zL (by repeat (first | (with_reducible first | exact HB.out | apply zG | apply zA | apply zF | refine zH ?_ GE414.out) | exact HB.out)) hb)
  clear BK414
  clear HB
  have BK414 := n0_
  have HB := n1_
  clear n0_ n1_
  (try clear hb)
  refine hK.out _ _ ⟨zB BK414.out 0, zB BK414.out 1, zB BK414.out 2, zB BK414.out 3, zB BK414.out 4⟩ (fun hHeld => ?_)
  clear hK K
  refine yA (a' := ?_) ?_ ?_
  rotate_left
  ·
   show Act.put _ (some 22) _ = _
   go_simp
   rfl
  refine zR (i := 9) (N := some 13) (v := ?_) (a' := ?_) #[true, true, true, true, true, true, true, true, true, true, false, false, false, false, false, false] rfl rfl (zN HT_.out (by kernel_rfl)) (fun _ _ _ h => h) (Or.inl ⟨by rfl, ?_⟩) ?_ ?_
  rotate_left
  ·
   intro w'
   go_simp
   with_reducible rfl
  rotate_left
  ·
   go_simp
   rfl
  refine zR (i := 10) (N := some 23) (v := ?_) (a' := ?_) #[true, true, true, true, true, true, true, true, true, true, true, false, false, false, false, false] rfl rfl (zN HT_.out (by kernel_rfl)) (fun _ _ _ h => h) (Or.inl ⟨by rfl, ?_⟩) ?_ ?_
  rotate_left
  ·
   intro w'
   go_simp
   with_reducible rfl
  rotate_left
  ·
   go_simp
   rfl
  refine zR (i := 11) (N := some 24) (v := ?_) (a' := ?_) #[true, true, true, true, true, true, true, true, true, true, true, true, false, false, false, false] rfl rfl (zN HT_.out (by kernel_rfl)) (fun _ _ _ h => h) (Or.inl ⟨by rfl, ?_⟩) ?_ ?_
  rotate_left
  ·
   intro w'
   go_simp
   with_reducible rfl
  rotate_left
  ·
   go_simp
   rfl
  refine zR (i := 12) (N := some 25) (v := ?_) (a' := ?_) #[true, true, true, true, true, true, true, true, true, true, true, true, true, false, false, false] rfl rfl (zN HT_.out (by kernel_rfl)) (fun _ _ _ h => h) (Or.inl ⟨by rfl, ?_⟩) ?_ ?_
  rotate_left
  ·
   intro w'
   go_simp
   with_reducible rfl
  rotate_left
  ·
   go_simp
   rfl
  refine zR (i := 13) (N := some 10) (v := ?_) (a' := ?_) #[true, true, true, true, true, true, true, true, true, true, true, true, true, true, false, false] rfl rfl (zN HT_.out (by kernel_rfl)) (fun _ _ _ h => h) (Or.inl ⟨by rfl, ?_⟩) ?_ ?_
  rotate_left
  ·
   intro w'
   go_simp
   with_reducible rfl
  rotate_left
  ·
   go_simp
   rfl
  refine zR (i := 14) (N := some 11) (v := ?_) (a' := ?_) #[true, true, true, true, true, true, true, true, true, true, true, true, true, true, true, false] rfl rfl (zN HT_.out (by kernel_rfl)) (fun _ _ _ h => h) (Or.inl ⟨by rfl, ?_⟩) ?_ ?_
  rotate_left
  ·
   intro w'
   go_simp
   with_reducible rfl
  rotate_left
  ·
   go_simp
   rfl
  refine zR (i := 15) (N := some 12) (v := ?_) (a' := ?_) #[true, true, true, true, true, true, true, true, true, true, true, true, true, true, true, true] rfl rfl (zN HT_.out (by kernel_rfl)) (fun _ _ _ h => h) (Or.inl ⟨by rfl, ?_⟩) ?_ ?_
  rotate_left
  ·
   intro w'
   go_simp
   with_reducible rfl
  rotate_left
  ·
   go_simp
   rfl
  refine done_ (done_of HT_.out (by kernel_rfl)) ?_
  go_upto_if 27 with (fail)
  have H := HX9.out
  clear HX9
  by_cases c13 : t419 = 0
  ·
   rw [if_pos c13] at H
   have c13b0 : (t419 == 0) = true := beq_iff_eq.mpr c13
   have c13b1 : (t419 != 0) = false := bne_eq_false_iff_eq.mpr c13
   clear c13
   (first | rw [c13b0] | (simp only [zY, zZ]; rw [c13b0]) | skip)
   replace H := Option.bind_eq_some_iff.mp H
   obtain ⟨t420, A140, H⟩ := H
   replace H : (some (t420, 0)) = some (r1, r2) := H
   have A14 := zC.mk A140
   clear A140
   simp only [Option.some.injEq, Prod.mk.injEq] at H
   obtain ⟨rfl, rfl⟩ := H
   go_wp2_with (first | ((with_reducible refine zP (f := 60) rfl ?_); refine zX (some 33) rfl rfl Try.func60 (by kernel_rfl) rfl #[.int .i64 t417, .int .i64 t418, .int .i64 a2, .int .i64 a3] rfl (by (try simp only [List.map_toArray, List.map_cons, List.map_nil]); first | done | rfl) ?_; (with_reducible refine (yP.calls k t417 t418 a2 a3 t420 _ A14.out).mono ?_); rintro e w15 ⟨v421, rfl, ho0, hb⟩; refine ⟨_, rfl, ?_⟩; have n0_ := zC.mk (Kd.R_lower ho0 (zM (by repeat (first | (with_reducible first | exact HB.out | apply zG | apply zA | apply zF | refine zH ?_ GE414.out) | exact HB.out)))); have n1_ := zC.mk (zK (g := gb414) (o := .cells #[.int .i64 a0_0, .int .i64 a0_1, .int .i64 a0_2, .int .i64 a0_3, .slice A0_4 l0_4.length c0_4] 32 (0, 0)) (by (with_reducible repeat (first | refine zE ?_ _ | refine zI ?_ | refine zD ?_ _)); exact BK414.out) hb); have n2_ := zC.mk (zL (by repeat (first | (with_reducible first | exact HB.out | apply zG | apply zA | apply zF | refine zH ?_ GE414.out) | exact HB.out)) hb); clear BK414; clear HB; have HO422 := n0_; have BK414 := n1_; have HB := n2_; clear n0_ n1_ n2_; (try clear hb); (try clear ho0)))
   go_ret2
   exact ⟨_, by first | rfl | (simp [*, errW_none, errW_some] <;> rfl), by (with_reducible repeat (first | apply Kd.R_alloc | apply Kd.R_drewN | apply Kd.R_drew)); exact HO422.out, by repeat (first | (with_reducible first | exact HB.out | apply zG | apply zA | apply zF | refine zH ?_ GE414.out) | exact HB.out)⟩
  ·
   rw [if_neg c13] at H
   have c13b0 : (t419 == 0) = false := beq_eq_false_iff_ne.mpr c13
   have c13b1 : (t419 != 0) = true := bne_iff_ne.mpr c13
   (first | rw [c13b0] | (simp only [zY, zZ]; rw [c13b0]) | skip)
   simp only [Option.some.injEq, Prod.mk.injEq] at H
   obtain ⟨rfl, rfl⟩ := H
   go_wp2
   go_ret2
   exact ⟨_, by first | rfl | (simp [*, errW_none, errW_some] <;> rfl), by first | exact Kd.R_nil _ _ _ _ _ | exact Kd.N_nil _ _ _ _ _ | exact Kd.V_nil _ _ _ _ _ | exact Kd.Q_nil _ _ _ _ _ | exact Kd.S_nil _ _ _ _ _, by repeat (first | (with_reducible first | exact HB.out | apply zG | apply zA | apply zF | refine zH ?_ GE414.out) | exact HB.out)⟩
 ·
  replace c6 := Bool.eq_false_iff.mpr c6
  subst c6
  have H1 : ((xB.f k a0_0 a0_1 a0_2 a0_3 l0_4 a1 false).bind fun bt423 => (if bt423.2.2 = 0 then ((yP.f k bt423.1 bt423.2.1 a2 a3).bind fun t426 => (some (t426, 0))) else (some (([] : List Int), bt423.2.2)))) = some (r1, r2) := by rw [if_neg (show ¬ (false = true) by decide)] at H; exact H
  clear H
  have H := H1
  clear H1
  replace H := Option.bind_eq_some_iff.mp H
  obtain ⟨⟨t423, t424, t425⟩, A160, H⟩ := H
  replace H : (if t425 = 0 then ((yP.f k t423 t424 a2 a3).bind fun t426 => (some (t426, 0))) else (some (([] : List Int), t425))) = some (r1, r2) := H
  have A16 := zC.mk A160
  clear A160
  have HX17 := zC.mk H
  clear H
  go_enter Try.func18, Try.ntmps18
  try go_wp2_with (first | ((with_reducible refine zQ (N := 4) rfl ?_); refine zO ?hg (N := 4) ?hd (cs := #[.int .i64 a0_0, .int .i64 a0_1, .int .i64 a0_2, .int .i64 a0_3, .slice A0_4 l0_4.length c0_4]) (t := 32) ?hr ?_; (case hd => rfl); (case hg => rfl); (case hr => first | (go_simp; done) | (go_simp; rfl)); intro gb414 hg w18 hbox hb; have n0_ := zC.mk (zL (by repeat (first | (with_reducible first | exact HB.out | apply zG | apply zA | apply zF) | exact HB.out)) hb); have n1_ := zC.mk (hbox); have n2_ := zC.mk ((by rw [hg]; exact (zM (by repeat (first | (with_reducible first | exact HB.out | apply zG | apply zA | apply zF) | exact HB.out))) : w.heap.size ≤ gb414)); have n3_ := n2_; clear HB; have HB := n0_; have BK414 := n1_; have GW414 := n2_; have GE414 := n3_; clear n0_ n1_ n2_ n3_; clear hb hbox hg))
  have n0_ := zC.mk (zI BK414.out)
  have n1_ := zC.mk (zF HB.out)
  clear BK414
  clear HB
  have BK414 := n0_
  have HB := n1_
  clear n0_ n1_
  refine start_ (n := 16) (S := fun w' => w'.cell? ⟨gb414, 0, none⟩ = some (.int .i64 a0_0) ∧ w'.cell? ⟨gb414, 1, none⟩ = some (.int .i64 a0_1) ∧ w'.cell? ⟨gb414, 2, none⟩ = some (.int .i64 a0_2) ∧ w'.cell? ⟨gb414, 3, none⟩ = some (.int .i64 a0_3) ∧ w'.cell? ⟨gb414, 4, none⟩ = some (.slice A0_4 l0_4.length c0_4)) (ds := []) #[false, false, false, false, false, false, false, false, false, false, false, false, false, false, false, false] (by kernel_rfl) rfl rfl ⟨zB BK414.out 0, zB BK414.out 1, zB BK414.out 2, zB BK414.out 3, zB BK414.out 4⟩ (fun hHeld => ?_); refine yE yS.tab1 yS.bits1 (fun HT_ HW_ => ?_)
  generalize w18.drew = w19 at BK414 HB hHeld ⊢
  refine zR (i := 1) (N := some 15) (v := ?_) (a' := ?_) #[false, true, false, false, false, false, false, false, false, false, false, false, false, false, false, false] rfl rfl (zN HT_.out (by kernel_rfl)) (fun _ _ _ h => h) (Or.inl ⟨by rfl, ?_⟩) ?_ ?_
  rotate_left
  ·
   intro w'
   go_simp
   with_reducible rfl
  rotate_left
  ·
   go_simp
   rfl
  refine zR (i := 2) (N := some 16) (v := ?_) (a' := ?_) #[false, true, true, false, false, false, false, false, false, false, false, false, false, false, false, false] rfl rfl (zN HT_.out (by kernel_rfl)) (fun _ _ _ h => h) (Or.inl ⟨by rfl, ?_⟩) ?_ ?_
  rotate_left
  ·
   intro w'
   go_simp
   with_reducible rfl
  rotate_left
  ·
   go_simp
   rfl
  refine yC (i := 0) (N := some 14) (v := ?_) (a' := ?_) #[true, true, true, false, false, false, false, false, false, false, false, false, false, false, false, false] rfl rfl (zW HT_.out HW_.out (by kernel_rfl)) (fun _ _ _ h => h) (Or.inl ⟨by rfl, ?_⟩) hHeld ?_ ?_
  rotate_left
  ·
   rintro w' ⟨s0, s1, s2, s3, s4⟩
   go_simp
   with_reducible rfl
  rotate_left
  ·
   go_simp
   rfl
  refine one_ (i := 3) (N := some 17) #[true, true, true, true, false, false, false, false, false, false, false, false, false, false, false, false] rfl rfl (yB HT_.out (by kernel_rfl)) (by decide) (fun K hK => ?_)
  refine yD Try.func58 (by kernel_rfl) rfl #[.int .i64 a2] (by rfl) rfl rfl (by (try simp only [List.map_toArray, List.map_cons, List.map_nil]); first | done | rfl) ?_
  with_reducible refine (wC.calls a2 false _ A5.out).mono ?_
  rintro e w' ⟨rfl, ⟨nd, rfl⟩⟩
  refine ⟨_, rfl, ?_⟩
  refine hK.out _ _ ⟨zB BK414.out 0, zB BK414.out 1, zB BK414.out 2, zB BK414.out 3, zB BK414.out 4⟩ (fun hHeld => ?_)
  clear hK K
  refine yA (a' := ?_) ?_ ?_
  rotate_left
  ·
   show Act.put _ (some 17) _ = _
   go_simp
   rfl
  refine zR (i := 4) (N := some 18) (v := ?_) (a' := ?_) #[true, true, true, true, true, false, false, false, false, false, false, false, false, false, false, false] rfl rfl (zN HT_.out (by kernel_rfl)) (fun _ _ _ h => h) (Or.inl ⟨by rfl, ?_⟩) ?_ ?_
  rotate_left
  ·
   intro w'
   go_simp
   with_reducible rfl
  rotate_left
  ·
   go_simp
   rfl
  refine zR (i := 5) (N := some 19) (v := undef) (a' := ?_) #[true, true, true, true, true, true, false, false, false, false, false, false, false, false, false, false] rfl rfl (zN HT_.out (by kernel_rfl)) (fun _ _ _ h => h) (Or.inr ⟨by rfl, rfl⟩) ?_ ?_
  rotate_left
  ·
   go_simp
   rfl
  refine zR (i := 6) (N := some 20) (v := undef) (a' := ?_) #[true, true, true, true, true, true, true, false, false, false, false, false, false, false, false, false] rfl rfl (zN HT_.out (by kernel_rfl)) (fun _ _ _ h => h) (Or.inr ⟨by rfl, rfl⟩) ?_ ?_
  rotate_left
  ·
   go_simp
   rfl
  refine zR (i := 7) (N := some 21) (v := ?_) (a' := ?_) #[true, true, true, true, true, true, true, true, false, false, false, false, false, false, false, false] rfl rfl (zN HT_.out (by kernel_rfl)) (fun _ _ _ h => h) (Or.inl ⟨by rfl, ?_⟩) ?_ ?_
  rotate_left
  ·
   intro w'
   go_simp
   with_reducible rfl
  rotate_left
  ·
   go_simp
   rfl
  refine one_ (i := 8) (N := some 22) #[true, true, true, true, true, true, true, true, true, false, false, false, false, false, false, false] rfl rfl (yB HT_.out (by kernel_rfl)) (by decide) (fun K hK => ?_)
  refine yD Try.func57 (by kernel_rfl) rfl #[.agg #[.int .i64 a0_0, .int .i64 a0_1, .int .i64 a0_2, .int .i64 a0_3, .slice A0_4 l0_4.length c0_4], .int .i64 a1, .bool false] (by rfl) rfl rfl (by (try simp only [List.map_toArray, List.map_cons, List.map_nil]); first | done | rfl) ?_
  with_reducible refine (xB.calls k a0_0 a0_1 a0_2 a0_3 _ _ l0_4 a1 false t423 t424 t425 _ ?side1 ?side2 A16.out).mono ?_
  (case side1 => repeat (first | exact (Kd.C_below HR0_4.out (by repeat (first | (with_reducible first | exact HB.out | apply zG | apply zA | apply zF | refine zH ?_ GE414.out) | exact HB.out))) | (with_reducible refine Kd.C_alloc ?_ _) | (with_reducible refine Kd.C_drewN ?_ _) | (with_reducible refine Kd.C_drew ?_)))
  (case side2 => exact HC0_4.out)
  rintro e w20 ⟨rfl, hb⟩
  refine ⟨_, rfl, ?_⟩
  have n0_ := zC.mk (zK (g := gb414) (o := .cells #[.int .i64 a0_0, .int .i64 a0_1, .int .i64 a0_2, .int .i64 a0_3, .slice A0_4 l0_4.length c0_4] 32 (0, 0)) (by (with_reducible repeat (first | refine zE ?_ _ | refine zI ?_ | refine zD ?_ _)); exact BK414.out) hb)
  have n1_ := zC.mk (zL (by repeat (first | (with_reducible first | exact HB.out | apply zG | apply zA | apply zF | refine zH ?_ GE414.out) | exact HB.out)) hb)
  clear BK414
  clear HB
  have BK414 := n0_
  have HB := n1_
  clear n0_ n1_
  (try clear hb)
  refine hK.out _ _ ⟨zB BK414.out 0, zB BK414.out 1, zB BK414.out 2, zB BK414.out 3, zB BK414.out 4⟩ (fun hHeld => ?_)
  clear hK K
  refine yA (a' := ?_) ?_ ?_
  rotate_left
  ·
   show Act.put _ (some 22) _ = _
   go_simp
   rfl
  refine zR (i := 9) (N := some 13) (v := ?_) (a' := ?_) #[true, true, true, true, true, true, true, true, true, true, false, false, false, false, false, false] rfl rfl (zN HT_.out (by kernel_rfl)) (fun _ _ _ h => h) (Or.inl ⟨by rfl, ?_⟩) ?_ ?_
  rotate_left
  ·
   intro w'
   go_simp
   with_reducible rfl
  rotate_left
  ·
   go_simp
   rfl
  refine zR (i := 10) (N := some 23) (v := ?_) (a' := ?_) #[true, true, true, true, true, true, true, true, true, true, true, false, false, false, false, false] rfl rfl (zN HT_.out (by kernel_rfl)) (fun _ _ _ h => h) (Or.inl ⟨by rfl, ?_⟩) ?_ ?_
  rotate_left
  ·
   intro w'
   go_simp
   with_reducible rfl
  rotate_left
  ·
   go_simp
   rfl
  refine zR (i := 11) (N := some 24) (v := ?_) (a' := ?_) #[true, true, true, true, true, true, true, true, true, true, true, true, false, false, false, false] rfl rfl (zN HT_.out (by kernel_rfl)) (fun _ _ _ h => h) (Or.inl ⟨by rfl, ?_⟩) ?_ ?_
  rotate_left
  ·
   intro w'
   go_simp
   with_reducible rfl
  rotate_left
  ·
   go_simp
   rfl
  refine zR (i := 12) (N := some 25) (v := ?_) (a' := ?_) #[true, true, true, true, true, true, true, true, true, true, true, true, true, false, false, false] rfl rfl (zN HT_.out (by kernel_rfl)) (fun _ _ _ h => h) (Or.inl ⟨by rfl, ?_⟩) ?_ ?_
  rotate_left
  ·
   intro w'
   go_simp
   with_reducible rfl
  rotate_left
  ·
   go_simp
   rfl
  refine zR (i := 13) (N := some 10) (v := ?_) (a' := ?_) #[true, true, true, true, true, true, true, true, true, true, true, true, true, true, false, false] rfl rfl (zN HT_.out (by kernel_rfl)) (fun _ _ _ h => h) (Or.inl ⟨by rfl, ?_⟩) ?_ ?_
  rotate_left
  ·
   intro w'
   go_simp
   with_reducible rfl
  rotate_left
  ·
   go_simp
   rfl
  refine zR (i := 14) (N := some 11) (v := ?_) (a' := ?_) #[true, true, true, true, true, true, true, true, true, true, true, true, true, true, true, false] rfl rfl (zN HT_.out (by kernel_rfl)) (fun _ _ _ h => h) (Or.inl ⟨by rfl, ?_⟩) ?_ ?_
  rotate_left
  ·
   intro w'
   go_simp
   with_reducible rfl
  rotate_left
  ·
   go_simp
   rfl
  refine zR (i := 15) (N := some 12) (v := ?_) (a' := ?_) #[true, true, true, true, true, true, true, true, true, true, true, true, true, true, true, true] rfl rfl (zN HT_.out (by kernel_rfl)) (fun _ _ _ h => h) (Or.inl ⟨by rfl, ?_⟩) ?_ ?_
  rotate_left
  ·
   intro w'
   go_simp
   with_reducible rfl
  rotate_left
  ·
   go_simp
   rfl
  refine done_ (done_of HT_.out (by kernel_rfl)) ?_
  go_upto_if 27 with (fail)
  have H := HX17.out
  clear HX17
  by_cases c21 : t425 = 0
  ·
   rw [if_pos c21] at H
   have c21b0 : (t425 == 0) = true := beq_iff_eq.mpr c21
   have c21b1 : (t425 != 0) = false := bne_eq_false_iff_eq.mpr c21
   clear c21
   (first | rw [c21b0] | (simp only [zY, zZ]; rw [c21b0]) | skip)
   replace H := Option.bind_eq_some_iff.mp H
   obtain ⟨t426, A220, H⟩ := H
   replace H : (some (t426, 0)) = some (r1, r2) := H
   have A22 := zC.mk A220
   clear A220
   simp only [Option.some.injEq, Prod.mk.injEq] at H
   obtain ⟨rfl, rfl⟩ := H
   go_wp2_with (first | ((with_reducible refine zP (f := 60) rfl ?_); refine zX (some 33) rfl rfl Try.func60 (by kernel_rfl) rfl #[.int .i64 t423, .int .i64 t424, .int .i64 a2, .int .i64 a3] rfl (by (try simp only [List.map_toArray, List.map_cons, List.map_nil]); first | done | rfl) ?_; (with_reducible refine (yP.calls k t423 t424 a2 a3 t426 _ A22.out).mono ?_); rintro e w23 ⟨v427, rfl, ho0, hb⟩; refine ⟨_, rfl, ?_⟩; have n0_ := zC.mk (Kd.R_lower ho0 (zM (by repeat (first | (with_reducible first | exact HB.out | apply zG | apply zA | apply zF | refine zH ?_ GE414.out) | exact HB.out)))); have n1_ := zC.mk (zK (g := gb414) (o := .cells #[.int .i64 a0_0, .int .i64 a0_1, .int .i64 a0_2, .int .i64 a0_3, .slice A0_4 l0_4.length c0_4] 32 (0, 0)) (by (with_reducible repeat (first | refine zE ?_ _ | refine zI ?_ | refine zD ?_ _)); exact BK414.out) hb); have n2_ := zC.mk (zL (by repeat (first | (with_reducible first | exact HB.out | apply zG | apply zA | apply zF | refine zH ?_ GE414.out) | exact HB.out)) hb); clear BK414; clear HB; have HO428 := n0_; have BK414 := n1_; have HB := n2_; clear n0_ n1_ n2_; (try clear hb); (try clear ho0)))
   go_ret2
   exact ⟨_, by first | rfl | (simp [*, errW_none, errW_some] <;> rfl), by (with_reducible repeat (first | apply Kd.R_alloc | apply Kd.R_drewN | apply Kd.R_drew)); exact HO428.out, by repeat (first | (with_reducible first | exact HB.out | apply zG | apply zA | apply zF | refine zH ?_ GE414.out) | exact HB.out)⟩
  ·
   rw [if_neg c21] at H
   have c21b0 : (t425 == 0) = false := beq_eq_false_iff_ne.mpr c21
   have c21b1 : (t425 != 0) = true := bne_iff_ne.mpr c21
   (first | rw [c21b0] | (simp only [zY, zZ]; rw [c21b0]) | skip)
   simp only [Option.some.injEq, Prod.mk.injEq] at H
   obtain ⟨rfl, rfl⟩ := H
   go_wp2
   go_ret2
   exact ⟨_, by first | rfl | (simp [*, errW_none, errW_some] <;> rfl), by first | exact Kd.R_nil _ _ _ _ _ | exact Kd.N_nil _ _ _ _ _ | exact Kd.V_nil _ _ _ _ _ | exact Kd.Q_nil _ _ _ _ _ | exact Kd.S_nil _ _ _ _ _, by repeat (first | (with_reducible first | exact HB.out | apply zG | apply zA | apply zF | refine zH ?_ GE414.out) | exact HB.out)⟩
theorem yQ.calls (k : Nat) (P0_ : Nat → Prop) (u9000_ : Value) (l0 : List Int) (a1 : Int) (r1 : Int) (r2 : List Int) (w0 w : World) (hB : Below w0.heap.size w0 w) (ho0 : Kd.R (Kd.int .i64) 2 w w0.heap.size P0_ u9000_ l0) (h : yQ.f k l0 a1 = some (r1, r2)) :
  Calls Try.prog 21 #[u9000_, .int .i64 a1] w fun e w' => e = .returned (.int .i64 r1) ∧ Kd.R (Kd.int .i64) 2 w' w0.heap.size (fun k_ => (P0_ k_ ∨ w.heap.size ≤ k_)) u9000_ r2 ∧ Below w0.heap.size w0 w' ∧ Kept w w' (fun k_ => P0_ k_) := by
 have HO0 := zC.mk (show Kd.R (Kd.int .i64) 2 w w0.heap.size (fun k_ => (P0_ k_ ∨ w.heap.size ≤ k_)) u9000_ l0 from Kd.R_mono ho0 (fun k_ hk => (.inl hk)))
 have HK := zC.mk (Kept.refl w (fun k_ => P0_ k_))
 have HW0 := zC.mk hB.size
 have HB := zC.mk hB
 clear hB
 have H : (yQ.l0 k l0 a1 0) = some (r1, r2) := h
 clear h
 have H' := zC.mk H
 clear H
 go_enter Try.func21, Try.ntmps21
 go_wp2
 go_loopg [1, 5] k (fun kq v1 v5 w' => ∃ (x0_1 : List Int) (x1_1 : Int) (x5_1 : Int), v1 = .int .i64 x1_1 ∧ v5 = .int .i64 x5_1 ∧ zC (yQ.l0 kq x0_1 x1_1 x5_1 = some (r1, r2)) ∧ zC (kq ≤ k) ∧ zC (Kd.R (Kd.int .i64) 2 w' w0.heap.size (fun k_ => (P0_ k_ ∨ w.heap.size ≤ k_)) u9000_ x0_1) ∧ zC (Kept w w' (fun k_ => P0_ k_)) ∧ zC (Below w0.heap.size w0 w'))
 case atStart => exact ⟨(l0), (a1), (0), (by first | rfl | (simp; done) | (simp [*]; done)), (by first | rfl | (simp; done) | (simp [*]; done)), H', ⟨Nat.le_refl _⟩, ⟨by (with_reducible repeat (first | apply Kd.R_alloc | apply Kd.R_drewN | apply Kd.R_drew)); exact HO0.out⟩, ⟨by repeat (first | (with_reducible first | exact HK.out | apply Kept.alloc | apply Kept.drewN | apply Kept.drew) | exact HK.out)⟩, ⟨by repeat (first | (with_reducible first | exact HB.out | apply zG | apply zA | apply zF) | exact HB.out)⟩⟩
 case round =>
  clear H'
  try clear c2
  try clear p2
  obtain ⟨x0_1, x1_1, x5_1, rfl, rfl, HA, HK1, HO_0, HK, HB⟩ := hrel
  cases gk with
  | zero => exact absurd HA.out (by simp [yQ.l0])
  | succ k1 =>
   have H := HA.out
   clear HA
   simp only [yQ.l0] at H
   by_cases c3 : x5_1 < (x0_1.length : Int)
   ·
    rw [if_pos c3] at H
    have c3b0 : decide (x5_1 < (x0_1.length : Int)) = true := decide_eq_true c3
    clear c3
    by_cases c4 : 0 ≤ x5_1
    ·
     rw [if_pos c4] at H
     have c4b0 : decide (0 ≤ x5_1) = true := decide_eq_true c4
     clear c4
     obtain ⟨y472, hy472⟩ : ∃ y_ : List Int, y_ = (x0_1.set (x5_1 : Int).toNat x1_1) := ⟨_, rfl⟩
     replace H : (yQ.l0 k1 y472 (wrap64 (x1_1 + 1)) (wrap64 (x5_1 + 1))) = some (r1, r2) := by first | (rw [hy472]; with_reducible exact H) | (have H2_ := (Option.bind_some _ _).symm.trans H; rw [hy472]; with_reducible exact H2_) | (have H2_ := (Option.bind_some _ _).symm.trans H; with_reducible exact H2_) | with_reducible exact H | (rw [hy472]; exact H) | exact H
     have Ny472 := zC.mk hy472
     clear hy472
     have H' := zC.mk H
     clear H
     obtain ⟨Ao6, co6, eo6⟩ := Kd.R_slice HO_0.out
     subst eo6
     have p5 : 0 ≤ (x5_1 : Int) := of_decide_eq_true (by first | (with_reducible assumption) | assumption)
     have q5 : (x5_1 : Int) < ((x0_1.length : Int) : Int) := of_decide_eq_true (by first | (with_reducible assumption) | assumption)
     obtain ⟨go5, co5, eo5, gb5, gl5, cl5, HG5⟩ := Kd.R_form HO_0.out (by omega)
     (first | cases eo5 | (injection eo5 with ea_ en_ ec_; (first | subst ea_ | (injection ea_ with ea_; subst ea_)); subst ec_; clear en_))
     have GB5 := zC.mk gb5
     have GG5 := zC.mk HG5
     clear gb5 gl5 HG5
     have HMgo5 := zC.mk (show (P0_ go5 ∨ w.heap.size ≤ go5) from (HO_0.out.1 _ rfl))
     obtain ⟨hx5_0, hf5_0⟩ := Kd.R_celln 0 HO_0.out (x5_1 : Int) p5 q5
     replace p5 := eq_true p5
     replace q5 := eq_true q5
     have HP7 := Kd.R_putg HO_0.out (x5_1 : Int) x1_1
     go_wp2_with (first | ((with_reducible refine gate_store (t := 2) (p := 15) rfl ?_); refine store_event (t := 2) (p := 15) (v := ?vo_w8) (w1 := (wr.setCell ⟨go5, (x5_1 : Int).toNat, none⟩ (.int .i64 x1_1))) ?hg ?ho ?hn ?hr ?_; (case ho => rfl); (case hg => rfl); (case hn => rfl); (case hr => first | (go_simp; done) | (go_simp; rfl)); intro w8 hw; have hg : wr.grownBy w8 (some go5) := (by rw [hw]; exact HP7.2); have hp_ : Kd.R (Kd.int .i64) 2 w8 w0.heap.size (fun k_ => (P0_ k_ ∨ w.heap.size ≤ k_)) (.slice (some ⟨go5, 0, none⟩) x0_1.length co6) y472 := (by rw [hw, Ny472.out]; exact HP7.1); clear HP7; have n0_ := zC.mk (hp_); have n1_ := zC.mk ((by rw [hw]; exact zH (HB.out) GB5.out : Below w0.heap.size w0 w8)); have n2_ := zC.mk (Kept.of_grown (S := (fun k_ => P0_ k_)) hg (by repeat (first | (with_reducible first | exact HK.out | apply Kept.alloc | apply Kept.drewN | apply Kept.drew) | exact HK.out)) (fun k_ e_ => (HO_0.out.1 k_ e_))); clear HO_0; clear HB; clear HK; have HO_0 := n0_; have HB := n1_; have HK := n2_; clear n0_ n1_ n2_; clear hg hw hp_))
     go_roundg k1
     case measure => have := HK1.out; omega
     case rel => exact ⟨(y472), (wrap64 (x1_1 + 1)), (wrap64 (x5_1 + 1)), (by first | rfl | (simp; done) | (simp [*]; done)), (by first | rfl | (simp; done) | (simp [*]; done)), H', ⟨by have := HK1.out; omega⟩, ⟨by (with_reducible repeat (first | apply Kd.R_alloc | apply Kd.R_drewN | apply Kd.R_drew)); exact HO_0.out⟩, ⟨by repeat (first | (with_reducible first | exact HK.out | apply Kept.alloc | apply Kept.drewN | apply Kept.drew) | exact HK.out)⟩, ⟨by repeat (first | (with_reducible first | exact HB.out | apply zG | apply zA | apply zF) | exact HB.out)⟩⟩
    ·
     rw [if_neg c4] at H
     exact absurd H (by simp)
   ·
    rw [if_neg c3] at H
    have c3b0 : decide (x5_1 < (x0_1.length : Int)) = false := decide_eq_false c3
    clear c3
    simp only [Option.some.injEq, Prod.mk.injEq] at H
    obtain ⟨rfl, rfl⟩ := H
    obtain ⟨Ao9, co9, eo9⟩ := Kd.R_slice HO_0.out
    subst eo9
    go_wp2
    go_ret
    exact ⟨by first | rfl | (simp [*, errW_none, errW_some] <;> rfl), by (with_reducible repeat (first | apply Kd.R_alloc | apply Kd.R_drewN | apply Kd.R_drew)); exact HO_0.out, by repeat (first | (with_reducible first | exact HB.out | apply zG | apply zA | apply zF) | exact HB.out), by repeat (first | (with_reducible first | exact HK.out | apply Kept.alloc | apply Kept.drewN | apply Kept.drew) | exact HK.out)⟩
theorem xH.calls (k : Nat) (a0_0 : Int) (a0_1 : Int) (a0_2 : Int) (a0_3 : Int) (P0_4_ : Nat → Prop) (u9000_ : Value) (l0_4 : List Int) (a1 : Int) (r1 : Int) (r2 : List Int) (w0 w : World) (hB : Below w0.heap.size w0 w) (ho0_4 : Kd.R (Kd.int .i64) 2 w w0.heap.size P0_4_ u9000_ l0_4) (h : xH.f k a0_0 a0_1 a0_2 a0_3 l0_4 a1 = some (r1, r2)) :
  Calls Try.prog 20 #[.agg #[.int .i64 a0_0, .int .i64 a0_1, .int .i64 a0_2, .int .i64 a0_3, u9000_], .int .i64 a1] w fun e w' => e = .returned (.int .i64 r1) ∧ Kd.R (Kd.int .i64) 2 w' w0.heap.size (fun k_ => (P0_4_ k_ ∨ w.heap.size ≤ k_)) u9000_ r2 ∧ Below w0.heap.size w0 w' ∧ Kept w w' (fun k_ => P0_4_ k_) := by
 have hu32 := Try.underlying32
 have HO0_4 := zC.mk (show Kd.R (Kd.int .i64) 2 w w0.heap.size (fun k_ => (P0_4_ k_ ∨ w.heap.size ≤ k_)) u9000_ l0_4 from Kd.R_mono ho0_4 (fun k_ hk => (.inl hk)))
 have HK := zC.mk (Kept.refl w (fun k_ => P0_4_ k_))
 have HW0 := zC.mk hB.size
 have HB := zC.mk hB
 clear hB
 have H : ((yQ.f k l0_4 a1).bind fun bt474 => (some (bt474.1, bt474.2))) = some (r1, r2) := h
 clear h
 replace H := Option.bind_eq_some_iff.mp H
 obtain ⟨⟨t474, t475⟩, A30, H⟩ := H
 replace H : (some (t474, t475)) = some (r1, r2) := H
 have A3 := zC.mk A30
 clear A30
 simp only [Option.some.injEq, Prod.mk.injEq] at H
 obtain ⟨rfl, rfl⟩ := H
 obtain ⟨Ao4, co4, eo4⟩ := Kd.R_slice HO0_4.out
 subst eo4
 go_enter Try.func20, Try.ntmps20
 go_wp2_with (first | ((with_reducible refine zQ (N := 2) rfl ?_); refine zO ?hg (N := 2) ?hd (cs := #[.int .i64 a0_0, .int .i64 a0_1, .int .i64 a0_2, .int .i64 a0_3, .slice Ao4 l0_4.length co4]) (t := 32) ?hr ?_; (case hd => rfl); (case hg => rfl); (case hr => first | (go_simp; done) | (go_simp; rfl)); intro gb473 hg w5 hbox hb; have n0_ := zC.mk (Kd.R_below (by (with_reducible repeat (first | apply Kd.R_alloc | apply Kd.R_drewN | apply Kd.R_drew)); exact HO0_4.out) hb); have n1_ := zC.mk (Kept.below (S := (fun k_ => P0_4_ k_)) (by repeat (first | (with_reducible first | exact HK.out | apply Kept.alloc | apply Kept.drewN | apply Kept.drew) | exact HK.out)) hb); have n2_ := zC.mk (zL (by repeat (first | (with_reducible first | exact HB.out | apply zG | apply zA | apply zF) | exact HB.out)) hb); have n3_ := zC.mk (hbox); have n4_ := zC.mk ((by rw [hg]; exact (by first | exact HK.out.1 | exact (show Kept w _ (fun k_ => P0_4_ k_) from by repeat (first | (with_reducible first | exact HK.out | apply Kept.alloc | apply Kept.drewN | apply Kept.drew) | exact HK.out)).1) : w.heap.size ≤ gb473)); have n5_ := zC.mk ((by rw [hg]; exact (zM (by repeat (first | (with_reducible first | exact HB.out | apply zG | apply zA | apply zF) | exact HB.out))) : w0.heap.size ≤ gb473)); clear HO0_4; clear HK; clear HB; have HO0_4 := n0_; have HK := n1_; have HB := n2_; have BK473 := n3_; have GW473 := n4_; have GE473 := n5_; clear n0_ n1_ n2_ n3_ n4_ n5_; clear hb hbox hg; have hcz6_0 : w5.cell? ⟨gb473, 0, none⟩ = some (.int .i64 a0_0) := zB BK473.out 0; have hcz6_1 : w5.cell? ⟨gb473, 1, none⟩ = some (.int .i64 a0_1) := zB BK473.out 1; have hcz6_2 : w5.cell? ⟨gb473, 2, none⟩ = some (.int .i64 a0_2) := zB BK473.out 2; have hcz6_3 : w5.cell? ⟨gb473, 3, none⟩ = some (.int .i64 a0_3) := zB BK473.out 3; have hcz6_4 : w5.cell? ⟨gb473, 4, none⟩ = some (.slice Ao4 l0_4.length co4) := zB BK473.out 4; have hfz6_0 := zJ BK473.out 0; have hfz6_1 := zJ BK473.out 1; have hfz6_2 := zJ BK473.out 2; have hfz6_3 := zJ BK473.out 3; have hfz6_4 := zJ BK473.out 4) | ((with_reducible refine zP (f := 21) rfl ?_); refine zX (some 8) rfl rfl Try.func21 (by kernel_rfl) rfl #[.slice Ao4 l0_4.length co4, .int .i64 a1] rfl (by (try simp only [List.map_toArray, List.map_cons, List.map_nil]); first | done | rfl) ?_; (with_reducible refine (yQ.calls k (fun k_ => some k_ = (.slice Ao4 l0_4.length co4 : Value).ownBlock) (.slice Ao4 l0_4.length co4) l0_4 a1 t474 t475 w0 _ ?side1 ?side2 A3.out).mono ?_); (case side1 => repeat (first | (with_reducible first | exact HB.out | apply zG | apply zA | apply zF | refine zH ?_ GE473.out) | exact HB.out)); (case side2 => exact Kd.R_tight rfl HO0_4.out); rintro e w7 ⟨rfl, hy0, hb, hkp⟩; refine ⟨_, rfl, ?_⟩; have n0_ := zC.mk (Kd.R_reok rfl hy0 (fun k_ e_ => HO0_4.out.1 k_ e_)); have n1_ := zC.mk (blk_kept (by (with_reducible repeat (first | refine zE ?_ _ | refine zI ?_ | refine zD ?_ _)); exact BK473.out) hkp (fun hs_ => (fun e_ => (Kd.R_ne HO0_4.out BK473.out (by decide)) e_) hs_)); have n2_ := zC.mk (Kept.then_ (S := (fun k_ => P0_4_ k_)) (by repeat (first | (with_reducible first | exact HK.out | apply Kept.alloc | apply Kept.drewN | apply Kept.drew | refine Kept.setCell ?_ (.inr GW473.out) _) | exact HK.out)) hkp (fun k_ hs_ => (fun e_ => (HO0_4.out.1 k_ e_.symm)) hs_)); have n3_ := zC.mk (hb); clear HO0_4; clear BK473; clear HK; clear HB; have HO0_4 := n0_; have BK473 := n1_; have HK := n2_; have HB := n3_; clear n0_ n1_ n2_ n3_; (try clear hb); (try clear hkp); (try clear hy0)))
 go_ret
 exact ⟨by first | rfl | (simp [*, errW_none, errW_some] <;> rfl), by (with_reducible repeat (first | apply Kd.R_alloc | apply Kd.R_drewN | apply Kd.R_drew)); exact HO0_4.out, by repeat (first | (with_reducible first | exact HB.out | apply zG | apply zA | apply zF | refine zH ?_ GE473.out) | exact HB.out), by repeat (first | (with_reducible first | exact HK.out | apply Kept.alloc | apply Kept.drewN | apply Kept.drew | refine Kept.setCell ?_ (.inr GW473.out) _) | exact HK.out)⟩
theorem yL.calls (k : Nat) (A0 : Option Addr) (c0 : Nat) (l0 : List Int) (a1 : Int) (r : Int) (w : World) (hr0 : Kd.C (Kd.int .i64) w A0 l0.length l0) (hc0 : l0.length ≤ c0) (h : yL.f k l0 a1 = some r) :
  Calls Try.prog 22 #[.slice A0 l0.length c0, .int .i64 a1] w fun e w' => e = .returned (.int .i64 r) ∧ Drawn0 w w' := by
 have HR0 := zC.mk hr0
 have HC0 := zC.mk hc0
 clear hr0 hc0
 have H : (yL.l0 k l0 a1 0) = some r := h
 clear h
 have H' := zC.mk H
 clear H
 go_enter Try.func22, Try.ntmps22
 go_wp2
 go_loopg [1, 5] k (fun kq v1 v5 w' => ∃ (x1_1 : Int) (x5_1 : Int), v1 = .int .i64 x1_1 ∧ v5 = .int .i64 x5_1 ∧ zC (yL.l0 kq l0 x1_1 x5_1 = some r) ∧ zC (kq ≤ k) ∧ Drawn0 w w')
 case atStart => exact ⟨(a1), (0), (by first | rfl | (simp; done) | (simp [*]; done)), (by first | rfl | (simp; done) | (simp [*]; done)), H', ⟨Nat.le_refl _⟩, by repeat (first | exact Drawn0.refl _ | apply Drawn0.step)⟩
 case round =>
  clear H'
  try clear c2
  try clear p2
  obtain ⟨x1_1, x5_1, rfl, rfl, HA, HK1, ⟨m1, rfl⟩⟩ := hrel
  cases gk with
  | zero => exact absurd HA.out (by simp [yL.l0])
  | succ k1 =>
   have H := HA.out
   clear HA
   simp only [yL.l0] at H
   by_cases c3 : x5_1 < (l0.length : Int)
   ·
    rw [if_pos c3] at H
    have c3b0 : decide (x5_1 < (l0.length : Int)) = true := decide_eq_true c3
    clear c3
    by_cases c4 : 0 ≤ x5_1
    ·
     rw [if_pos c4] at H
     have c4b0 : decide (0 ≤ x5_1) = true := decide_eq_true c4
     clear c4
     by_cases c5 : (rd l0 x5_1) = x1_1
     ·
      rw [if_pos c5] at H
      have c5b0 : ((rd l0 x5_1) == x1_1) = true := beq_iff_eq.mpr c5
      have c5b1 : ((rd l0 x5_1) != x1_1) = false := bne_eq_false_iff_eq.mpr c5
      clear c5
      have H' := zC.mk H
      clear H
      have p476 : 0 ≤ (x5_1 : Int) := of_decide_eq_true (by first | (with_reducible assumption) | assumption)
      have q476 : x5_1 < (l0.length : Int) := of_decide_eq_true (by first | (with_reducible assumption) | assumption)
      obtain ⟨ad476, e476, hx476_0⟩ := Kd.at_int HR0.out x5_1 p476 q476
      cases e476
      replace p476 := eq_true p476
      replace q476 := eq_true q476
      go_wp2
      go_roundg k1
      case measure => have := HK1.out; omega
      case rel => exact ⟨(wrap64 (x1_1 + 1)), (wrap64 (x5_1 + 1)), (by first | rfl | (simp; done) | (simp [*]; done)), (by first | rfl | (simp; done) | (simp [*]; done)), H', ⟨by have := HK1.out; omega⟩, by repeat (first | exact Drawn0.refl _ | apply Drawn0.step)⟩
     ·
      rw [if_neg c5] at H
      have c5b0 : ((rd l0 x5_1) == x1_1) = false := beq_eq_false_iff_ne.mpr c5
      have c5b1 : ((rd l0 x5_1) != x1_1) = true := bne_iff_ne.mpr c5
      obtain rfl := Option.some.inj H
      have p476 : 0 ≤ (x5_1 : Int) := of_decide_eq_true (by first | (with_reducible assumption) | assumption)
      have q476 : x5_1 < (l0.length : Int) := of_decide_eq_true (by first | (with_reducible assumption) | assumption)
      obtain ⟨ad476, e476, hx476_0⟩ := Kd.at_int HR0.out x5_1 p476 q476
      cases e476
      replace p476 := eq_true p476
      replace q476 := eq_true q476
      go_wp2
      go_ret
      exact ⟨by first | rfl | (simp; done) | (simp [*]; done), by repeat (first | exact Drawn0.refl _ | apply Drawn0.step)⟩
    ·
     rw [if_neg c4] at H
     exact absurd H (by simp)
   ·
    rw [if_neg c3] at H
    have c3b0 : decide (x5_1 < (l0.length : Int)) = false := decide_eq_false c3
    clear c3
    obtain rfl := Option.some.inj H
    go_wp2
    go_ret
    exact ⟨by first | rfl | (simp; done) | (simp [*]; done), by repeat (first | exact Drawn0.refl _ | apply Drawn0.step)⟩
theorem xF.calls (k : Nat) (a0_0 : Int) (a0_1 : Int) (a0_2 : Int) (a0_3 : Int) (A0_4 : Option Addr) (c0_4 : Nat) (l0_4 : List Int) (a1 : Int) (a2 : Int) (a3 : Int) (r : Bool) (w : World) (hr0_4 : Kd.C (Kd.int .i64) w A0_4 l0_4.length l0_4) (hc0_4 : l0_4.length ≤ c0_4) (h : xF.f k a0_0 a0_1 a0_2 a0_3 l0_4 a1 a2 a3 = some r) :
  Calls Try.prog 4 #[.agg #[.int .i64 a0_0, .int .i64 a0_1, .int .i64 a0_2, .int .i64 a0_3, .slice A0_4 l0_4.length c0_4], .int .i64 a1, .int .i64 a2, .int .i64 a3] w fun e w' => e = .returned (.bool r) ∧ Below w.heap.size w w' := by
 have hu26 := Try.underlying26
 have hu32 := Try.underlying32
 have HR0_4 := zC.mk hr0_4
 have HC0_4 := zC.mk hc0_4
 clear hr0_4 hc0_4
 have HB := zC.mk (Below.refl w.heap.size w)
 have H : ((wM.f a0_0 a0_1 a0_2 a0_3 l0_4 1048576).bind fun t478 => (if t478 < 0 then (some true) else ((yZ.f k a0_0 a0_1 a0_2 a0_3 l0_4).bind fun bt479 => ((xD.f k bt479.1 bt479.2.1 bt479.2.2.1 bt479.2.2.2.1 bt479.2.2.2.2 a1 a2 a3).bind fun bt486 => ((yZ.f k a0_0 a0_1 a0_2 a0_3 l0_4).bind fun bt490 => ((yS.f k bt490.1 bt490.2.1 bt490.2.2.1 bt490.2.2.2.1 bt490.2.2.2.2 a1 a2 a3).bind fun bt498 => ((yN.f k bt498.1 bt486.1).bind fun t502 => (if t502 = true then (if bt498.2 = bt486.2 then ((yZ.f k a0_0 a0_1 a0_2 a0_3 l0_4).bind fun bt503 => ((xJ.f k bt490.1 bt490.2.1 bt490.2.2.1 bt490.2.2.2.1 bt490.2.2.2.2 bt503.1 bt503.2.1 bt503.2.2.1 bt503.2.2.2.1 bt503.2.2.2.2).bind fun t510 => (if t510 = true then ((xH.f k bt490.1 bt490.2.1 bt490.2.2.1 bt490.2.2.2.1 bt490.2.2.2.2 1).bind fun bt511 => (if bt511.1 < 0 then (none) else ((yN.f k bt498.1 bt486.1).bind fun t513 => (if t513 = true then ((yQ.f k bt498.1 1).bind fun bt514 => ((yL.f k bt514.2 1).bind fun t516 => (if t516 < 0 then (none) else (if t516 = bt514.1 then ((yZ.f k a0_0 a0_1 a0_2 a0_3 l0_4).bind fun bt517 => ((yS.f k bt517.1 bt517.2.1 bt517.2.2.1 bt517.2.2.2.1 bt517.2.2.2.2 a1 a2 a3).bind fun bt524 => ((yN.f k bt524.1 bt486.1).bind fun t528 => (if t528 = true then (if bt524.2 = bt486.2 then ((yL.f k bt514.2 1).bind fun t529 => (if t529 < 0 then (none) else (if t529 = bt514.1 then (some true) else (none)))) else (none)) else (none))))) else (none))))) else (none))))) else (none)))) else (none)) else (none))))))))) = some r := h
 clear h
 replace H := Option.bind_eq_some_iff.mp H
 obtain ⟨t478, A50, H⟩ := H
 replace H : (if t478 < 0 then (some true) else ((yZ.f k a0_0 a0_1 a0_2 a0_3 l0_4).bind fun bt479 => ((xD.f k bt479.1 bt479.2.1 bt479.2.2.1 bt479.2.2.2.1 bt479.2.2.2.2 a1 a2 a3).bind fun bt486 => ((yZ.f k a0_0 a0_1 a0_2 a0_3 l0_4).bind fun bt490 => ((yS.f k bt490.1 bt490.2.1 bt490.2.2.1 bt490.2.2.2.1 bt490.2.2.2.2 a1 a2 a3).bind fun bt498 => ((yN.f k bt498.1 bt486.1).bind fun t502 => (if t502 = true then (if bt498.2 = bt486.2 then ((yZ.f k a0_0 a0_1 a0_2 a0_3 l0_4).bind fun bt503 => ((xJ.f k bt490.1 bt490.2.1 bt490.2.2.1 bt490.2.2.2.1 bt490.2.2.2.2 bt503.1 bt503.2.1 bt503.2.2.1 bt503.2.2.2.1 bt503.2.2.2.2).bind fun t510 => (if t510 = true then ((xH.f k bt490.1 bt490.2.1 bt490.2.2.1 bt490.2.2.2.1 bt490.2.2.2.2 1).bind fun bt511 => (if bt511.1 < 0 then (none) else ((yN.f k bt498.1 bt486.1).bind fun t513 => (if t513 = true then ((yQ.f k bt498.1 1).bind fun bt514 => ((yL.f k bt514.2 1).bind fun t516 => (if t516 < 0 then (none) else (if t516 = bt514.1 then ((yZ.f k a0_0 a0_1 a0_2 a0_3 l0_4).bind fun bt517 => ((yS.f k bt517.1 bt517.2.1 bt517.2.2.1 bt517.2.2.2.1 bt517.2.2.2.2 a1 a2 a3).bind fun bt524 => ((yN.f k bt524.1 bt486.1).bind fun t528 => (if t528 = true then (if bt524.2 = bt486.2 then ((yL.f k bt514.2 1).bind fun t529 => (if t529 < 0 then (none) else (if t529 = bt514.1 then (some true) else (none)))) else (none)) else (none))))) else (none))))) else (none))))) else (none)))) else (none)) else (none)))))))) = some r := H
 have A5 := zC.mk A50
 clear A50
 by_cases c6 : t478 < 0
 ·
  rw [if_pos c6] at H
  have c6b0 : decide (t478 < 0) = true := decide_eq_true c6
  clear c6
  obtain rfl := Option.some.inj H
  go_enter Try.func4, Try.ntmps4
  go_wp2_with (first | ((with_reducible refine zQ (N := 4) rfl ?_); refine zO ?hg (N := 4) ?hd (cs := #[.int .i64 a0_0, .int .i64 a0_1, .int .i64 a0_2, .int .i64 a0_3, .slice A0_4 l0_4.length c0_4]) (t := 26) ?hr ?_; (case hd => rfl); (case hg => rfl); (case hr => first | (go_simp; done) | (go_simp; rfl)); intro gb477 hg w7 hbox hb; have n0_ := zC.mk (zL (by repeat (first | (with_reducible first | exact HB.out | apply zG | apply zA | apply zF) | exact HB.out)) hb); have n1_ := zC.mk (hbox); have n2_ := zC.mk ((by rw [hg]; exact (zM (by repeat (first | (with_reducible first | exact HB.out | apply zG | apply zA | apply zF) | exact HB.out))) : w.heap.size ≤ gb477)); have n3_ := n2_; clear HB; have HB := n0_; have BK477 := n1_; have GW477 := n2_; have GE477 := n3_; clear n0_ n1_ n2_ n3_; clear hb hbox hg; have hcz8_0 : w7.cell? ⟨gb477, 0, none⟩ = some (.int .i64 a0_0) := zB BK477.out 0; have hcz8_1 : w7.cell? ⟨gb477, 1, none⟩ = some (.int .i64 a0_1) := zB BK477.out 1; have hcz8_2 : w7.cell? ⟨gb477, 2, none⟩ = some (.int .i64 a0_2) := zB BK477.out 2; have hcz8_3 : w7.cell? ⟨gb477, 3, none⟩ = some (.int .i64 a0_3) := zB BK477.out 3; have hcz8_4 : w7.cell? ⟨gb477, 4, none⟩ = some (.slice A0_4 l0_4.length c0_4) := zB BK477.out 4; have hfz8_0 := zJ BK477.out 0; have hfz8_1 := zJ BK477.out 1; have hfz8_2 := zJ BK477.out 2; have hfz8_3 := zJ BK477.out 3; have hfz8_4 := zJ BK477.out 4) | ((with_reducible refine zP (f := 12) rfl ?_); refine zX (some 22) rfl rfl Try.func12 (by kernel_rfl) rfl #[.agg #[.int .i64 a0_0, .int .i64 a0_1, .int .i64 a0_2, .int .i64 a0_3, .slice A0_4 l0_4.length c0_4], .int .i64 1048576] rfl (by (try simp only [List.map_toArray, List.map_cons, List.map_nil]); first | done | rfl) ?_; (with_reducible refine (wM.calls a0_0 a0_1 a0_2 a0_3 _ _ l0_4 1048576 t478 _ ?side1 ?side2 A5.out).mono ?_); (case side1 => repeat (first | exact (Kd.C_below HR0_4.out HB.out) | (with_reducible refine Kd.C_alloc ?_ _) | (with_reducible refine Kd.C_drewN ?_ _) | (with_reducible refine Kd.C_drew ?_))); (case side2 => exact HC0_4.out); rintro e w9 ⟨rfl, hb⟩; refine ⟨_, rfl, ?_⟩; have n0_ := zC.mk (zK (g := gb477) (o := .cells #[.int .i64 a0_0, .int .i64 a0_1, .int .i64 a0_2, .int .i64 a0_3, .slice A0_4 l0_4.length c0_4] 26 (0, 0)) (by (with_reducible repeat (first | refine zE ?_ _ | refine zI ?_ | refine zD ?_ _)); exact BK477.out) hb); have n1_ := zC.mk (zL (by repeat (first | (with_reducible first | exact HB.out | apply zG | apply zA | apply zF | refine zH ?_ GE477.out) | exact HB.out)) hb); clear BK477; clear HB; have BK477 := n0_; have HB := n1_; clear n0_ n1_; (try clear hb)))
  go_ret
  exact ⟨by first | rfl | (simp [*, errW_none, errW_some] <;> rfl), by repeat (first | (with_reducible first | exact HB.out | apply zG | apply zA | apply zF | refine zH ?_ GE477.out) | exact HB.out)⟩
 ·
  rw [if_neg c6] at H
  have c6b0 : decide (t478 < 0) = false := decide_eq_false c6
  clear c6
  replace H := Option.bind_eq_some_iff.mp H
  obtain ⟨⟨t479, t480, t481, t482, t483⟩, A100, H⟩ := H
  replace H : ((xD.f k t479 t480 t481 t482 t483 a1 a2 a3).bind fun bt486 => ((yZ.f k a0_0 a0_1 a0_2 a0_3 l0_4).bind fun bt490 => ((yS.f k bt490.1 bt490.2.1 bt490.2.2.1 bt490.2.2.2.1 bt490.2.2.2.2 a1 a2 a3).bind fun bt498 => ((yN.f k bt498.1 bt486.1).bind fun t502 => (if t502 = true then (if bt498.2 = bt486.2 then ((yZ.f k a0_0 a0_1 a0_2 a0_3 l0_4).bind fun bt503 => ((xJ.f k bt490.1 bt490.2.1 bt490.2.2.1 bt490.2.2.2.1 bt490.2.2.2.2 bt503.1 bt503.2.1 bt503.2.2.1 bt503.2.2.2.1 bt503.2.2.2.2).bind fun t510 => (if t510 = true then ((xH.f k bt490.1 bt490.2.1 bt490.2.2.1 bt490.2.2.2.1 bt490.2.2.2.2 1).bind fun bt511 => (if bt511.1 < 0 then (none) else ((yN.f k bt498.1 bt486.1).bind fun t513 => (if t513 = true then ((yQ.f k bt498.1 1).bind fun bt514 => ((yL.f k bt514.2 1).bind fun t516 => (if t516 < 0 then (none) else (if t516 = bt514.1 then ((yZ.f k a0_0 a0_1 a0_2 a0_3 l0_4).bind fun bt517 => ((yS.f k bt517.1 bt517.2.1 bt517.2.2.1 bt517.2.2.2.1 bt517.2.2.2.2 a1 a2 a3).bind fun bt524 => ((yN.f k bt524.1 bt486.1).bind fun t528 => (if t528 = true then (if bt524.2 = bt486.2 then ((yL.f k bt514.2 1).bind fun t529 => (if t529 < 0 then (none) else (if t529 = bt514.1 then (some true) else (none)))) else (none)) else (none))))) else (none))))) else (none))))) else (none)))) else (none)) else (none)))))) = some r := H
  have A10 := zC.mk A100
  clear A100
  replace H := Option.bind_eq_some_iff.mp H
  obtain ⟨⟨t486, t489⟩, A110, H⟩ := H
  replace H : ((yZ.f k a0_0 a0_1 a0_2 a0_3 l0_4).bind fun bt490 => ((yS.f k bt490.1 bt490.2.1 bt490.2.2.1 bt490.2.2.2.1 bt490.2.2.2.2 a1 a2 a3).bind fun bt498 => ((yN.f k bt498.1 t486).bind fun t502 => (if t502 = true then (if bt498.2 = t489 then ((yZ.f k a0_0 a0_1 a0_2 a0_3 l0_4).bind fun bt503 => ((xJ.f k bt490.1 bt490.2.1 bt490.2.2.1 bt490.2.2.2.1 bt490.2.2.2.2 bt503.1 bt503.2.1 bt503.2.2.1 bt503.2.2.2.1 bt503.2.2.2.2).bind fun t510 => (if t510 = true then ((xH.f k bt490.1 bt490.2.1 bt490.2.2.1 bt490.2.2.2.1 bt490.2.2.2.2 1).bind fun bt511 => (if bt511.1 < 0 then (none) else ((yN.f k bt498.1 t486).bind fun t513 => (if t513 = true then ((yQ.f k bt498.1 1).bind fun bt514 => ((yL.f k bt514.2 1).bind fun t516 => (if t516 < 0 then (none) else (if t516 = bt514.1 then ((yZ.f k a0_0 a0_1 a0_2 a0_3 l0_4).bind fun bt517 => ((yS.f k bt517.1 bt517.2.1 bt517.2.2.1 bt517.2.2.2.1 bt517.2.2.2.2 a1 a2 a3).bind fun bt524 => ((yN.f k bt524.1 t486).bind fun t528 => (if t528 = true then (if bt524.2 = t489 then ((yL.f k bt514.2 1).bind fun t529 => (if t529 < 0 then (none) else (if t529 = bt514.1 then (some true) else (none)))) else (none)) else (none))))) else (none))))) else (none))))) else (none)))) else (none)) else (none))))) = some r := H
  have A11 := zC.mk A110
  clear A110
  replace H := Option.bind_eq_some_iff.mp H
  obtain ⟨⟨t490, t491, t492, t493, t494⟩, A120, H⟩ := H
  replace H : ((yS.f k t490 t491 t492 t493 t494 a1 a2 a3).bind fun bt498 => ((yN.f k bt498.1 t486).bind fun t502 => (if t502 = true then (if bt498.2 = t489 then ((yZ.f k a0_0 a0_1 a0_2 a0_3 l0_4).bind fun bt503 => ((xJ.f k t490 t491 t492 t493 t494 bt503.1 bt503.2.1 bt503.2.2.1 bt503.2.2.2.1 bt503.2.2.2.2).bind fun t510 => (if t510 = true then ((xH.f k t490 t491 t492 t493 t494 1).bind fun bt511 => (if bt511.1 < 0 then (none) else ((yN.f k bt498.1 t486).bind fun t513 => (if t513 = true then ((yQ.f k bt498.1 1).bind fun bt514 => ((yL.f k bt514.2 1).bind fun t516 => (if t516 < 0 then (none) else (if t516 = bt514.1 then ((yZ.f k a0_0 a0_1 a0_2 a0_3 l0_4).bind fun bt517 => ((yS.f k bt517.1 bt517.2.1 bt517.2.2.1 bt517.2.2.2.1 bt517.2.2.2.2 a1 a2 a3).bind fun bt524 => ((yN.f k bt524.1 t486).bind fun t528 => (if t528 = true then (if bt524.2 = t489 then ((yL.f k bt514.2 1).bind fun t529 => (if t529 < 0 then (none) else (if t529 = bt514.1 then (some true) else (none)))) else (none)) else (none))))) else (none))))) else (none))))) else (none)))) else (none)) else (none)))) = some r := H
  have A12 := zC.mk A120
  clear A120
  replace H := Option.bind_eq_some_iff.mp H
  obtain ⟨⟨t498, t501⟩, A130, H⟩ := H
  replace H : ((yN.f k t498 t486).bind fun t502 => (if t502 = true then (if t501 = t489 then ((yZ.f k a0_0 a0_1 a0_2 a0_3 l0_4).bind fun bt503 => ((xJ.f k t490 t491 t492 t493 t494 bt503.1 bt503.2.1 bt503.2.2.1 bt503.2.2.2.1 bt503.2.2.2.2).bind fun t510 => (if t510 = true then ((xH.f k t490 t491 t492 t493 t494 1).bind fun bt511 => (if bt511.1 < 0 then (none) else ((yN.f k t498 t486).bind fun t513 => (if t513 = true then ((yQ.f k t498 1).bind fun bt514 => ((yL.f k bt514.2 1).bind fun t516 => (if t516 < 0 then (none) else (if t516 = bt514.1 then ((yZ.f k a0_0 a0_1 a0_2 a0_3 l0_4).bind fun bt517 => ((yS.f k bt517.1 bt517.2.1 bt517.2.2.1 bt517.2.2.2.1 bt517.2.2.2.2 a1 a2 a3).bind fun bt524 => ((yN.f k bt524.1 t486).bind fun t528 => (if t528 = true then (if bt524.2 = t489 then ((yL.f k bt514.2 1).bind fun t529 => (if t529 < 0 then (none) else (if t529 = bt514.1 then (some true) else (none)))) else (none)) else (none))))) else (none))))) else (none))))) else (none)))) else (none)) else (none))) = some r := H
  have A13 := zC.mk A130
  clear A130
  replace H := Option.bind_eq_some_iff.mp H
  obtain ⟨t502, A140, H⟩ := H
  replace H : (if t502 = true then (if t501 = t489 then ((yZ.f k a0_0 a0_1 a0_2 a0_3 l0_4).bind fun bt503 => ((xJ.f k t490 t491 t492 t493 t494 bt503.1 bt503.2.1 bt503.2.2.1 bt503.2.2.2.1 bt503.2.2.2.2).bind fun t510 => (if t510 = true then ((xH.f k t490 t491 t492 t493 t494 1).bind fun bt511 => (if bt511.1 < 0 then (none) else ((yN.f k t498 t486).bind fun t513 => (if t513 = true then ((yQ.f k t498 1).bind fun bt514 => ((yL.f k bt514.2 1).bind fun t516 => (if t516 < 0 then (none) else (if t516 = bt514.1 then ((yZ.f k a0_0 a0_1 a0_2 a0_3 l0_4).bind fun bt517 => ((yS.f k bt517.1 bt517.2.1 bt517.2.2.1 bt517.2.2.2.1 bt517.2.2.2.2 a1 a2 a3).bind fun bt524 => ((yN.f k bt524.1 t486).bind fun t528 => (if t528 = true then (if bt524.2 = t489 then ((yL.f k bt514.2 1).bind fun t529 => (if t529 < 0 then (none) else (if t529 = bt514.1 then (some true) else (none)))) else (none)) else (none))))) else (none))))) else (none))))) else (none)))) else (none)) else (none)) = some r := H
  have A14 := zC.mk A140
  clear A140
  by_cases c15 : t502 = true
  ·
   subst c15
   have H1 : (if t501 = t489 then ((yZ.f k a0_0 a0_1 a0_2 a0_3 l0_4).bind fun bt503 => ((xJ.f k t490 t491 t492 t493 t494 bt503.1 bt503.2.1 bt503.2.2.1 bt503.2.2.2.1 bt503.2.2.2.2).bind fun t510 => (if t510 = true then ((xH.f k t490 t491 t492 t493 t494 1).bind fun bt511 => (if bt511.1 < 0 then (none) else ((yN.f k t498 t486).bind fun t513 => (if t513 = true then ((yQ.f k t498 1).bind fun bt514 => ((yL.f k bt514.2 1).bind fun t516 => (if t516 < 0 then (none) else (if t516 = bt514.1 then ((yZ.f k a0_0 a0_1 a0_2 a0_3 l0_4).bind fun bt517 => ((yS.f k bt517.1 bt517.2.1 bt517.2.2.1 bt517.2.2.2.1 bt517.2.2.2.2 a1 a2 a3).bind fun bt524 => ((yN.f k bt524.1 t486).bind fun t528 => (if t528 = true then (if bt524.2 = t489 then ((yL.f k bt514.2 1).bind fun t529 => (if t529 < 0 then (none) else (if t529 = bt514.1 then (some true) else (none)))) else (none)) else (none))))) else (none))))) else (none))))) else (none)))) else (none)) = some r := by rw [if_pos rfl] at H; exact H
   clear H
   have H := H1
   clear H1
   by_cases c16 : t501 = t489
   ·
    rw [if_pos c16] at H
    have c16b0 : (t501 == t489) = true := beq_iff_eq.mpr c16
    have c16b1 : (t501 != t489) = false := bne_eq_false_iff_eq.mpr c16
    clear c16
    replace H := Option.bind_eq_some_iff.mp H
    obtain ⟨⟨t503, t504, t505, t506, t507⟩, A170, H⟩ := H
    replace H : ((xJ.f k t490 t491 t492 t493 t494 t503 t504 t505 t506 t507).bind fun t510 => (if t510 = true then ((xH.f k t490 t491 t492 t493 t494 1).bind fun bt511 => (if bt511.1 < 0 then (none) else ((yN.f k t498 t486).bind fun t513 => (if t513 = true then ((yQ.f k t498 1).bind fun bt514 => ((yL.f k bt514.2 1).bind fun t516 => (if t516 < 0 then (none) else (if t516 = bt514.1 then ((yZ.f k a0_0 a0_1 a0_2 a0_3 l0_4).bind fun bt517 => ((yS.f k bt517.1 bt517.2.1 bt517.2.2.1 bt517.2.2.2.1 bt517.2.2.2.2 a1 a2 a3).bind fun bt524 => ((yN.f k bt524.1 t486).bind fun t528 => (if t528 = true then (if bt524.2 = t489 then ((yL.f k bt514.2 1).bind fun t529 => (if t529 < 0 then (none) else (if t529 = bt514.1 then (some true) else (none)))) else (none)) else (none))))) else (none))))) else (none))))) else (none))) = some r := H
    have A17 := zC.mk A170
    clear A170
    replace H := Option.bind_eq_some_iff.mp H
    obtain ⟨t510, A180, H⟩ := H
    replace H : (if t510 = true then ((xH.f k t490 t491 t492 t493 t494 1).bind fun bt511 => (if bt511.1 < 0 then (none) else ((yN.f k t498 t486).bind fun t513 => (if t513 = true then ((yQ.f k t498 1).bind fun bt514 => ((yL.f k bt514.2 1).bind fun t516 => (if t516 < 0 then (none) else (if t516 = bt514.1 then ((yZ.f k a0_0 a0_1 a0_2 a0_3 l0_4).bind fun bt517 => ((yS.f k bt517.1 bt517.2.1 bt517.2.2.1 bt517.2.2.2.1 bt517.2.2.2.2 a1 a2 a3).bind fun bt524 => ((yN.f k bt524.1 t486).bind fun t528 => (if t528 = true then (if bt524.2 = t489 then ((yL.f k bt514.2 1).bind fun t529 => (if t529 < 0 then (none) else (if t529 = bt514.1 then (some true) else (none)))) else (none)) else (none))))) else (none))))) else (none))))) else (none)) = some r := H
    have A18 := zC.mk A180
    clear A180
    by_cases c19 : t510 = true
    ·
     subst c19
     have H1 : ((xH.f k t490 t491 t492 t493 t494 1).bind fun bt511 => (if bt511.1 < 0 then (none) else ((yN.f k t498 t486).bind fun t513 => (if t513 = true then ((yQ.f k t498 1).bind fun bt514 => ((yL.f k bt514.2 1).bind fun t516 => (if t516 < 0 then (none) else (if t516 = bt514.1 then ((yZ.f k a0_0 a0_1 a0_2 a0_3 l0_4).bind fun bt517 => ((yS.f k bt517.1 bt517.2.1 bt517.2.2.1 bt517.2.2.2.1 bt517.2.2.2.2 a1 a2 a3).bind fun bt524 => ((yN.f k bt524.1 t486).bind fun t528 => (if t528 = true then (if bt524.2 = t489 then ((yL.f k bt514.2 1).bind fun t529 => (if t529 < 0 then (none) else (if t529 = bt514.1 then (some true) else (none)))) else (none)) else (none))))) else (none))))) else (none))))) = some r := by rw [if_pos rfl] at H; exact H
     clear H
     have H := H1
     clear H1
     replace H := Option.bind_eq_some_iff.mp H
     obtain ⟨⟨t511, t512⟩, A200, H⟩ := H
     replace H : (if t511 < 0 then (none) else ((yN.f k t498 t486).bind fun t513 => (if t513 = true then ((yQ.f k t498 1).bind fun bt514 => ((yL.f k bt514.2 1).bind fun t516 => (if t516 < 0 then (none) else (if t516 = bt514.1 then ((yZ.f k a0_0 a0_1 a0_2 a0_3 l0_4).bind fun bt517 => ((yS.f k bt517.1 bt517.2.1 bt517.2.2.1 bt517.2.2.2.1 bt517.2.2.2.2 a1 a2 a3).bind fun bt524 => ((yN.f k bt524.1 t486).bind fun t528 => (if t528 = true then (if bt524.2 = t489 then ((yL.f k bt514.2 1).bind fun t529 => (if t529 < 0 then (none) else (if t529 = bt514.1 then (some true) else (none)))) else (none)) else (none))))) else (none))))) else (none)))) = some r := H
     have A20 := zC.mk A200
     clear A200
     by_cases c21 : t511 < 0
     ·
      rw [if_pos c21] at H
      exact absurd H (by simp)
     ·
      rw [if_neg c21] at H
      have c21b0 : decide (t511 < 0) = false := decide_eq_false c21
      clear c21
      replace H := Option.bind_eq_some_iff.mp H
      obtain ⟨t513, A220, H⟩ := H
      replace H : (if t513 = true then ((yQ.f k t498 1).bind fun bt514 => ((yL.f k bt514.2 1).bind fun t516 => (if t516 < 0 then (none) else (if t516 = bt514.1 then ((yZ.f k a0_0 a0_1 a0_2 a0_3 l0_4).bind fun bt517 => ((yS.f k bt517.1 bt517.2.1 bt517.2.2.1 bt517.2.2.2.1 bt517.2.2.2.2 a1 a2 a3).bind fun bt524 => ((yN.f k bt524.1 t486).bind fun t528 => (if t528 = true then (if bt524.2 = t489 then ((yL.f k bt514.2 1).bind fun t529 => (if t529 < 0 then (none) else (if t529 = bt514.1 then (some true) else (none)))) else (none)) else (none))))) else (none))))) else (none)) = some r := H
      have A22 := zC.mk A220
      clear A220
      by_cases c23 : t513 = true
      ·
       subst c23
       have H1 : ((yQ.f k t498 1).bind fun bt514 => ((yL.f k bt514.2 1).bind fun t516 => (if t516 < 0 then (none) else (if t516 = bt514.1 then ((yZ.f k a0_0 a0_1 a0_2 a0_3 l0_4).bind fun bt517 => ((yS.f k bt517.1 bt517.2.1 bt517.2.2.1 bt517.2.2.2.1 bt517.2.2.2.2 a1 a2 a3).bind fun bt524 => ((yN.f k bt524.1 t486).bind fun t528 => (if t528 = true then (if bt524.2 = t489 then ((yL.f k bt514.2 1).bind fun t529 => (if t529 < 0 then (none) else (if t529 = bt514.1 then (some true) else (none)))) else (none)) else (none))))) else (none))))) = some r := by rw [if_pos rfl] at H; exact H
       clear H
       have H := H1
       clear H1
       replace H := Option.bind_eq_some_iff.mp H
       obtain ⟨⟨t514, t515⟩, A240, H⟩ := H
       replace H : ((yL.f k t515 1).bind fun t516 => (if t516 < 0 then (none) else (if t516 = t514 then ((yZ.f k a0_0 a0_1 a0_2 a0_3 l0_4).bind fun bt517 => ((yS.f k bt517.1 bt517.2.1 bt517.2.2.1 bt517.2.2.2.1 bt517.2.2.2.2 a1 a2 a3).bind fun bt524 => ((yN.f k bt524.1 t486).bind fun t528 => (if t528 = true then (if bt524.2 = t489 then ((yL.f k t515 1).bind fun t529 => (if t529 < 0 then (none) else (if t529 = t514 then (some true) else (none)))) else (none)) else (none))))) else (none)))) = some r := H
       have A24 := zC.mk A240
       clear A240
       replace H := Option.bind_eq_some_iff.mp H
       obtain ⟨t516, A250, H⟩ := H
       replace H : (if t516 < 0 then (none) else (if t516 = t514 then ((yZ.f k a0_0 a0_1 a0_2 a0_3 l0_4).bind fun bt517 => ((yS.f k bt517.1 bt517.2.1 bt517.2.2.1 bt517.2.2.2.1 bt517.2.2.2.2 a1 a2 a3).bind fun bt524 => ((yN.f k bt524.1 t486).bind fun t528 => (if t528 = true then (if bt524.2 = t489 then ((yL.f k t515 1).bind fun t529 => (if t529 < 0 then (none) else (if t529 = t514 then (some true) else (none)))) else (none)) else (none))))) else (none))) = some r := H
       have A25 := zC.mk A250
       clear A250
       by_cases c26 : t516 < 0
       ·
        rw [if_pos c26] at H
        exact absurd H (by simp)
       ·
        rw [if_neg c26] at H
        have c26b0 : decide (t516 < 0) = false := decide_eq_false c26
        clear c26
        by_cases c27 : t516 = t514
        ·
         rw [if_pos c27] at H
         have c27b0 : (t516 == t514) = true := beq_iff_eq.mpr c27
         have c27b1 : (t516 != t514) = false := bne_eq_false_iff_eq.mpr c27
         clear c27
         replace H := Option.bind_eq_some_iff.mp H
         obtain ⟨⟨t517, t518, t519, t520, t521⟩, A280, H⟩ := H
         replace H : ((yS.f k t517 t518 t519 t520 t521 a1 a2 a3).bind fun bt524 => ((yN.f k bt524.1 t486).bind fun t528 => (if t528 = true then (if bt524.2 = t489 then ((yL.f k t515 1).bind fun t529 => (if t529 < 0 then (none) else (if t529 = t514 then (some true) else (none)))) else (none)) else (none)))) = some r := H
         have A28 := zC.mk A280
         clear A280
         replace H := Option.bind_eq_some_iff.mp H
         obtain ⟨⟨t524, t527⟩, A290, H⟩ := H
         replace H : ((yN.f k t524 t486).bind fun t528 => (if t528 = true then (if t527 = t489 then ((yL.f k t515 1).bind fun t529 => (if t529 < 0 then (none) else (if t529 = t514 then (some true) else (none)))) else (none)) else (none))) = some r := H
         have A29 := zC.mk A290
         clear A290
         replace H := Option.bind_eq_some_iff.mp H
         obtain ⟨t528, A300, H⟩ := H
         replace H : (if t528 = true then (if t527 = t489 then ((yL.f k t515 1).bind fun t529 => (if t529 < 0 then (none) else (if t529 = t514 then (some true) else (none)))) else (none)) else (none)) = some r := H
         have A30 := zC.mk A300
         clear A300
         by_cases c31 : t528 = true
         ·
          subst c31
          have H1 : (if t527 = t489 then ((yL.f k t515 1).bind fun t529 => (if t529 < 0 then (none) else (if t529 = t514 then (some true) else (none)))) else (none)) = some r := by rw [if_pos rfl] at H; exact H
          clear H
          have H := H1
          clear H1
          by_cases c32 : t527 = t489
          ·
           rw [if_pos c32] at H
           have c32b0 : (t527 == t489) = true := beq_iff_eq.mpr c32
           have c32b1 : (t527 != t489) = false := bne_eq_false_iff_eq.mpr c32
           clear c32
           replace H := Option.bind_eq_some_iff.mp H
           obtain ⟨t529, A330, H⟩ := H
           replace H : (if t529 < 0 then (none) else (if t529 = t514 then (some true) else (none))) = some r := H
           have A33 := zC.mk A330
           clear A330
           by_cases c34 : t529 < 0
           ·
            rw [if_pos c34] at H
            exact absurd H (by simp)
           ·
            rw [if_neg c34] at H
            have c34b0 : decide (t529 < 0) = false := decide_eq_false c34
            clear c34
            by_cases c35 : t529 = t514
            ·
             rw [if_pos c35] at H
             have c35b0 : (t529 == t514) = true := beq_iff_eq.mpr c35
             have c35b1 : (t529 != t514) = false := bne_eq_false_iff_eq.mpr c35
             clear c35
             obtain rfl := Option.some.inj H
             go_enter Try.func4, Try.ntmps4
             try go_wp2_with (first | ((with_reducible refine zQ (N := 4) rfl ?_); refine zO ?hg (N := 4) ?hd (cs := #[.int .i64 a0_0, .int .i64 a0_1, .int .i64 a0_2, .int .i64 a0_3, .slice A0_4 l0_4.length c0_4]) (t := 26) ?hr ?_; (case hd => rfl); (case hg => rfl); (case hr => first | (go_simp; done) | (go_simp; rfl)); intro gb477 hg w36 hbox hb; have n0_ := zC.mk (zL (by repeat (first | (with_reducible first | exact HB.out | apply zG | apply zA | apply zF) | exact HB.out)) hb); have n1_ := zC.mk (hbox); have n2_ := zC.mk ((by rw [hg]; exact (zM (by repeat (first | (with_reducible first | exact HB.out | apply zG | apply zA | apply zF) | exact HB.out))) : w.heap.size ≤ gb477)); have n3_ := n2_; clear HB; have HB := n0_; have BK477 := n1_; have GW477 := n2_; have GE477 := n3_; clear n0_ n1_ n2_ n3_; clear hb hbox hg; have hcz37_0 : w36.cell? ⟨gb477, 0, none⟩ = some (.int .i64 a0_0) := zB BK477.out 0; have hcz37_1 : w36.cell? ⟨gb477, 1, none⟩ = some (.int .i64 a0_1) := zB BK477.out 1; have hcz37_2 : w36.cell? ⟨gb477, 2, none⟩ = some (.int .i64 a0_2) := zB BK477.out 2; have hcz37_3 : w36.cell? ⟨gb477, 3, none⟩ = some (.int .i64 a0_3) := zB BK477.out 3; have hcz37_4 : w36.cell? ⟨gb477, 4, none⟩ = some (.slice A0_4 l0_4.length c0_4) := zB BK477.out 4; have hfz37_0 := zJ BK477.out 0; have hfz37_1 := zJ BK477.out 1; have hfz37_2 := zJ BK477.out 2; have hfz37_3 := zJ BK477.out 3; have hfz37_4 := zJ BK477.out 4) | ((with_reducible refine zP (f := 12) rfl ?_); refine zX (some 22) rfl rfl Try.func12 (by kernel_rfl) rfl #[.agg #[.int .i64 a0_0, .int .i64 a0_1, .int .i64 a0_2, .int .i64 a0_3, .slice A0_4 l0_4.length c0_4], .int .i64 1048576] rfl (by (try simp only [List.map_toArray, List.map_cons, List.map_nil]); first | done | rfl) ?_; (with_reducible refine (wM.calls a0_0 a0_1 a0_2 a0_3 _ _ l0_4 1048576 t478 _ ?side1 ?side2 A5.out).mono ?_); (case side1 => repeat (first | exact (Kd.C_below HR0_4.out HB.out) | (with_reducible refine Kd.C_alloc ?_ _) | (with_reducible refine Kd.C_drewN ?_ _) | (with_reducible refine Kd.C_drew ?_))); (case side2 => exact HC0_4.out); rintro e w38 ⟨rfl, hb⟩; refine ⟨_, rfl, ?_⟩; have n0_ := zC.mk (zK (g := gb477) (o := .cells #[.int .i64 a0_0, .int .i64 a0_1, .int .i64 a0_2, .int .i64 a0_3, .slice A0_4 l0_4.length c0_4] 26 (0, 0)) (by (with_reducible repeat (first | refine zE ?_ _ | refine zI ?_ | refine zD ?_ _)); exact BK477.out) hb); have n1_ := zC.mk (zL (by repeat (first | (with_reducible first | exact HB.out | apply zG | apply zA | apply zF | refine zH ?_ GE477.out) | exact HB.out)) hb); clear BK477; clear HB; have BK477 := n0_; have HB := n1_; clear n0_ n1_; (try clear hb); have hcz39_0 : w38.cell? ⟨gb477, 0, none⟩ = some (.int .i64 a0_0) := zB BK477.out 0; have hcz39_1 : w38.cell? ⟨gb477, 1, none⟩ = some (.int .i64 a0_1) := zB BK477.out 1; have hcz39_2 : w38.cell? ⟨gb477, 2, none⟩ = some (.int .i64 a0_2) := zB BK477.out 2; have hcz39_3 : w38.cell? ⟨gb477, 3, none⟩ = some (.int .i64 a0_3) := zB BK477.out 3; have hcz39_4 : w38.cell? ⟨gb477, 4, none⟩ = some (.slice A0_4 l0_4.length c0_4) := zB BK477.out 4; have hfz39_0 := zJ BK477.out 0; have hfz39_1 := zJ BK477.out 1; have hfz39_2 := zJ BK477.out 2; have hfz39_3 := zJ BK477.out 3; have hfz39_4 := zJ BK477.out 4) | ((with_reducible refine zP (f := 14) rfl ?_); refine zX (some 27) rfl rfl Try.func14 (by kernel_rfl) rfl #[.agg #[.int .i64 a0_0, .int .i64 a0_1, .int .i64 a0_2, .int .i64 a0_3, .slice A0_4 l0_4.length c0_4]] rfl (by (try simp only [List.map_toArray, List.map_cons, List.map_nil]); first | done | rfl) ?_; (with_reducible refine (yZ.calls k a0_0 a0_1 a0_2 a0_3 _ _ l0_4 t479 t480 t481 t482 t483 _ ?side1 ?side2 A10.out).mono ?_); (case side1 => repeat (first | exact (Kd.C_below HR0_4.out HB.out) | (with_reducible refine Kd.C_alloc ?_ _) | (with_reducible refine Kd.C_drewN ?_ _) | (with_reducible refine Kd.C_drew ?_))); (case side2 => exact HC0_4.out); rintro e w40 ⟨v484, rfl, ho0, hb⟩; refine ⟨_, rfl, ?_⟩; have n0_ := zC.mk (Kd.R_lower ho0 (zM (by repeat (first | (with_reducible first | exact HB.out | apply zG | apply zA | apply zF | refine zH ?_ GE477.out) | exact HB.out)))); have n1_ := zC.mk (zK (g := gb477) (o := .cells #[.int .i64 a0_0, .int .i64 a0_1, .int .i64 a0_2, .int .i64 a0_3, .slice A0_4 l0_4.length c0_4] 26 (0, 0)) (by (with_reducible repeat (first | refine zE ?_ _ | refine zI ?_ | refine zD ?_ _)); exact BK477.out) hb); have n2_ := zC.mk (zL (by repeat (first | (with_reducible first | exact HB.out | apply zG | apply zA | apply zF | refine zH ?_ GE477.out) | exact HB.out)) hb); clear BK477; clear HB; have HO485 := n0_; have BK477 := n1_; have HB := n2_; clear n0_ n1_ n2_; (try clear hb); (try clear ho0); obtain ⟨Ao41, co41, eo41⟩ := Kd.R_slice HO485.out; subst eo41) | ((with_reducible refine zP (f := 17) rfl ?_); refine zX (some 31) rfl rfl Try.func17 (by kernel_rfl) rfl #[.agg #[.int .i64 t479, .int .i64 t480, .int .i64 t481, .int .i64 t482, .slice Ao41 t483.length co41], .int .i64 a1, .int .i64 a2, .int .i64 a3] rfl (by (try simp only [List.map_toArray, List.map_cons, List.map_nil]); first | done | rfl) ?_; (with_reducible refine (xD.calls k t479 t480 t481 t482 _ _ t483 a1 a2 a3 t486 t489 _ ?side1 ?side2 A11.out).mono ?_); (case side1 => repeat (first | exact (Kd.R_reads' HO485.out).2.2 | (with_reducible refine Kd.C_alloc ?_ _) | (with_reducible refine Kd.C_drewN ?_ _) | (with_reducible refine Kd.C_drew ?_))); (case side2 => exact (Kd.R_reads' HO485.out).2.1); rintro e w42 ⟨v487, rfl, ho0, hb⟩; refine ⟨_, rfl, ?_⟩; have n0_ := zC.mk (Kd.R_elder' (by (with_reducible repeat (first | apply Kd.R_alloc | apply Kd.R_drewN | apply Kd.R_drew)); exact HO485.out) (Kd.R_base ho0) hb); have n1_ := zC.mk (Kd.R_lower (Kd.R_new' ho0 (Kd.R_lt (by (with_reducible repeat (first | apply Kd.R_alloc | apply Kd.R_drewN | apply Kd.R_drew)); exact HO485.out))) (zM (by repeat (first | (with_reducible first | exact HB.out | apply zG | apply zA | apply zF | refine zH ?_ GE477.out) | exact HB.out)))); have n2_ := zC.mk (zK (g := gb477) (o := .cells #[.int .i64 a0_0, .int .i64 a0_1, .int .i64 a0_2, .int .i64 a0_3, .slice A0_4 l0_4.length c0_4] 26 (0, 0)) (by (with_reducible repeat (first | refine zE ?_ _ | refine zI ?_ | refine zD ?_ _)); exact BK477.out) hb); have n3_ := zC.mk (zL (by repeat (first | (with_reducible first | exact HB.out | apply zG | apply zA | apply zF | refine zH ?_ GE477.out) | exact HB.out)) hb); clear HO485; clear BK477; clear HB; have HO485 := n0_; have HO488 := n1_; have BK477 := n2_; have HB := n3_; clear n0_ n1_ n2_ n3_; (try clear hb); (try clear ho0); have hcz43_0 : w42.cell? ⟨gb477, 0, none⟩ = some (.int .i64 a0_0) := zB BK477.out 0; have hcz43_1 : w42.cell? ⟨gb477, 1, none⟩ = some (.int .i64 a0_1) := zB BK477.out 1; have hcz43_2 : w42.cell? ⟨gb477, 2, none⟩ = some (.int .i64 a0_2) := zB BK477.out 2; have hcz43_3 : w42.cell? ⟨gb477, 3, none⟩ = some (.int .i64 a0_3) := zB BK477.out 3; have hcz43_4 : w42.cell? ⟨gb477, 4, none⟩ = some (.slice A0_4 l0_4.length c0_4) := zB BK477.out 4; have hfz43_0 := zJ BK477.out 0; have hfz43_1 := zJ BK477.out 1; have hfz43_2 := zJ BK477.out 2; have hfz43_3 := zJ BK477.out 3; have hfz43_4 := zJ BK477.out 4) | ((with_reducible refine zP (f := 14) rfl ?_); refine zX (some 35) rfl rfl Try.func14 (by kernel_rfl) rfl #[.agg #[.int .i64 a0_0, .int .i64 a0_1, .int .i64 a0_2, .int .i64 a0_3, .slice A0_4 l0_4.length c0_4]] rfl (by (try simp only [List.map_toArray, List.map_cons, List.map_nil]); first | done | rfl) ?_; (with_reducible refine (yZ.calls k a0_0 a0_1 a0_2 a0_3 _ _ l0_4 t490 t491 t492 t493 t494 _ ?side1 ?side2 A12.out).mono ?_); (case side1 => repeat (first | exact (Kd.C_below HR0_4.out HB.out) | (with_reducible refine Kd.C_alloc ?_ _) | (with_reducible refine Kd.C_drewN ?_ _) | (with_reducible refine Kd.C_drew ?_))); (case side2 => exact HC0_4.out); rintro e w44 ⟨v495, rfl, ho0, hb⟩; refine ⟨_, rfl, ?_⟩; have n0_ := zC.mk (Kd.R_elder' (by (with_reducible repeat (first | apply Kd.R_alloc | apply Kd.R_drewN | apply Kd.R_drew)); exact HO485.out) (Kd.R_base ho0) hb); have n1_ := zC.mk (Kd.R_elder' (by (with_reducible repeat (first | apply Kd.R_alloc | apply Kd.R_drewN | apply Kd.R_drew)); exact HO488.out) (Kd.R_base ho0) hb); have n2_ := zC.mk (Kd.R_lower (Kd.R_new' (Kd.R_new' ho0 (Kd.R_lt (by (with_reducible repeat (first | apply Kd.R_alloc | apply Kd.R_drewN | apply Kd.R_drew)); exact HO485.out))) (Kd.R_lt (by (with_reducible repeat (first | apply Kd.R_alloc | apply Kd.R_drewN | apply Kd.R_drew)); exact HO488.out))) (zM (by repeat (first | (with_reducible first | exact HB.out | apply zG | apply zA | apply zF | refine zH ?_ GE477.out) | exact HB.out)))); have n3_ := zC.mk (zK (g := gb477) (o := .cells #[.int .i64 a0_0, .int .i64 a0_1, .int .i64 a0_2, .int .i64 a0_3, .slice A0_4 l0_4.length c0_4] 26 (0, 0)) (by (with_reducible repeat (first | refine zE ?_ _ | refine zI ?_ | refine zD ?_ _)); exact BK477.out) hb); have n4_ := zC.mk (zL (by repeat (first | (with_reducible first | exact HB.out | apply zG | apply zA | apply zF | refine zH ?_ GE477.out) | exact HB.out)) hb); clear HO485; clear HO488; clear BK477; clear HB; have HO485 := n0_; have HO488 := n1_; have HO496 := n2_; have BK477 := n3_; have HB := n4_; clear n0_ n1_ n2_ n3_ n4_; (try clear hb); (try clear ho0)) | ((with_reducible refine zQ (N := 12) rfl ?_); refine zO ?hg (N := 12) ?hd (cs := #[.int .i64 0, .int .i64 0, .int .i64 0, .int .i64 0, .slice none 0 0]) (t := 32) ?hr ?_; (case hd => rfl); (case hg => rfl); (case hr => first | (go_simp; done) | (go_simp; rfl)); intro gb497 hg w45 hbox hb; have n0_ := zC.mk (Kd.R_below (by (with_reducible repeat (first | apply Kd.R_alloc | apply Kd.R_drewN | apply Kd.R_drew)); exact HO485.out) hb); have n1_ := zC.mk (Kd.R_below (by (with_reducible repeat (first | apply Kd.R_alloc | apply Kd.R_drewN | apply Kd.R_drew)); exact HO488.out) hb); have n2_ := zC.mk (Kd.R_below (by (with_reducible repeat (first | apply Kd.R_alloc | apply Kd.R_drewN | apply Kd.R_drew)); exact HO496.out) hb); have n3_ := zC.mk (zK (g := gb477) (o := .cells #[.int .i64 a0_0, .int .i64 a0_1, .int .i64 a0_2, .int .i64 a0_3, .slice A0_4 l0_4.length c0_4] 26 (0, 0)) (by (with_reducible repeat (first | refine zE ?_ _ | refine zI ?_ | refine zD ?_ _)); exact BK477.out) hb); have n4_ := zC.mk (zL (by repeat (first | (with_reducible first | exact HB.out | apply zG | apply zA | apply zF | refine zH ?_ GE477.out) | exact HB.out)) hb); have n5_ := zC.mk (hbox); have n6_ := zC.mk ((by rw [hg]; exact (zM (by repeat (first | (with_reducible first | exact HB.out | apply zG | apply zA | apply zF | refine zH ?_ GE477.out) | exact HB.out))) : w.heap.size ≤ gb497)); have n7_ := n6_; have n8_ := zC.mk ((by rw [hg]; exact Nat.ne_of_lt (zV (by (with_reducible repeat (first | refine zE ?_ _ | refine zI ?_ | refine zD ?_ _)); exact BK477.out)) : gb477 ≠ gb497)); have n9_ := zC.mk n8_.out.symm; clear HO485; clear HO488; clear HO496; clear BK477; clear HB; have HO485 := n0_; have HO488 := n1_; have HO496 := n2_; have BK477 := n3_; have HB := n4_; have BK497 := n5_; have GW497 := n6_; have GE497 := n7_; have NB477_497 := n8_; have NB497_477 := n9_; clear n0_ n1_ n2_ n3_ n4_ n5_ n6_ n7_ n8_ n9_; clear hb hbox hg; have hnb46 := NB497_477.out; have hnc46 := NB477_497.out; have hcz47_0 : w45.cell? ⟨gb497, 0, none⟩ = some (.int .i64 0) := zB BK497.out 0; have hcz47_1 : w45.cell? ⟨gb497, 1, none⟩ = some (.int .i64 0) := zB BK497.out 1; have hcz47_2 : w45.cell? ⟨gb497, 2, none⟩ = some (.int .i64 0) := zB BK497.out 2; have hcz47_3 : w45.cell? ⟨gb497, 3, none⟩ = some (.int .i64 0) := zB BK497.out 3; have hcz47_4 : w45.cell? ⟨gb497, 4, none⟩ = some (.slice none 0 0) := zB BK497.out 4; have hfz47_0 := zJ BK497.out 0; have hfz47_1 := zJ BK497.out 1; have hfz47_2 := zJ BK497.out 2; have hfz47_3 := zJ BK497.out 3; have hfz47_4 := zJ BK497.out 4; obtain ⟨Ao48, co48, eo48⟩ := Kd.R_slice HO496.out; subst eo48) | ((with_reducible refine zP (f := 18) rfl ?_); refine zX (some 41) rfl rfl Try.func18 (by kernel_rfl) rfl #[.agg #[.int .i64 t490, .int .i64 t491, .int .i64 t492, .int .i64 t493, .slice Ao48 t494.length co48], .int .i64 a1, .int .i64 a2, .int .i64 a3] rfl (by (try simp only [List.map_toArray, List.map_cons, List.map_nil]); first | done | rfl) ?_; (with_reducible refine (yS.calls k t490 t491 t492 t493 _ _ t494 a1 a2 a3 t498 t501 _ ?side1 ?side2 A13.out).mono ?_); (case side1 => refine (Kd.R_reads' (e := 2) (base := w.heap.size) (ok := fun k_ => ((True ∧ some k_ ≠ (.slice Ao41 t483.length co41 : Value).ownBlock) ∧ some k_ ≠ (v487 : Value).ownBlock)) (n := t494.length) (c := co48) ?_).2.2; exact (by (with_reducible repeat (first | apply Kd.R_alloc | apply Kd.R_drewN | apply Kd.R_drew)); exact (Kd.R_mono (Kd.R_far (p := ⟨gb497, 4, none⟩) (Kd.R_far (p := ⟨gb497, 3, none⟩) (Kd.R_far (p := ⟨gb497, 2, none⟩) (Kd.R_far (p := ⟨gb497, 1, none⟩) (Kd.R_far (p := ⟨gb497, 0, none⟩) (Kd.R_types HO496.out BK497.out (by decide)) (fun _ hk => hk.2) (.int .i64 t490)) (fun _ hk => hk.2) (.int .i64 t491)) (fun _ hk => hk.2) (.int .i64 t492)) (fun _ hk => hk.2) (.int .i64 t493)) (fun _ hk => hk.2) (.slice Ao48 t494.length co48)) (fun _ h_ => h_.1)))); (case side2 => exact (Kd.R_reads' HO496.out).2.1); rintro e w49 ⟨v499, rfl, ho0, hb⟩; refine ⟨_, rfl, ?_⟩; have n0_ := zC.mk (Kd.R_elder' (by (with_reducible repeat (first | apply Kd.R_alloc | apply Kd.R_drewN | apply Kd.R_drew)); exact (Kd.R_mono (Kd.R_far (p := ⟨gb497, 4, none⟩) (Kd.R_far (p := ⟨gb497, 3, none⟩) (Kd.R_far (p := ⟨gb497, 2, none⟩) (Kd.R_far (p := ⟨gb497, 1, none⟩) (Kd.R_far (p := ⟨gb497, 0, none⟩) (Kd.R_types HO485.out BK497.out (by decide)) (fun _ hk => hk.2) (.int .i64 t490)) (fun _ hk => hk.2) (.int .i64 t491)) (fun _ hk => hk.2) (.int .i64 t492)) (fun _ hk => hk.2) (.int .i64 t493)) (fun _ hk => hk.2) (.slice Ao48 t494.length co48)) (fun _ h_ => h_.1))) (Kd.R_base ho0) hb); have n1_ := zC.mk (Kd.R_elder' (by (with_reducible repeat (first | apply Kd.R_alloc | apply Kd.R_drewN | apply Kd.R_drew)); exact (Kd.R_mono (Kd.R_far (p := ⟨gb497, 4, none⟩) (Kd.R_far (p := ⟨gb497, 3, none⟩) (Kd.R_far (p := ⟨gb497, 2, none⟩) (Kd.R_far (p := ⟨gb497, 1, none⟩) (Kd.R_far (p := ⟨gb497, 0, none⟩) (Kd.R_types HO488.out BK497.out (by decide)) (fun _ hk => hk.2) (.int .i64 t490)) (fun _ hk => hk.2) (.int .i64 t491)) (fun _ hk => hk.2) (.int .i64 t492)) (fun _ hk => hk.2) (.int .i64 t493)) (fun _ hk => hk.2) (.slice Ao48 t494.length co48)) (fun _ h_ => h_.1))) (Kd.R_base ho0) hb); have n2_ := zC.mk (Kd.R_elder' (by (with_reducible repeat (first | apply Kd.R_alloc | apply Kd.R_drewN | apply Kd.R_drew)); exact (Kd.R_mono (Kd.R_far (p := ⟨gb497, 4, none⟩) (Kd.R_far (p := ⟨gb497, 3, none⟩) (Kd.R_far (p := ⟨gb497, 2, none⟩) (Kd.R_far (p := ⟨gb497, 1, none⟩) (Kd.R_far (p := ⟨gb497, 0, none⟩) (Kd.R_types HO496.out BK497.out (by decide)) (fun _ hk => hk.2) (.int .i64 t490)) (fun _ hk => hk.2) (.int .i64 t491)) (fun _ hk => hk.2) (.int .i64 t492)) (fun _ hk => hk.2) (.int .i64 t493)) (fun _ hk => hk.2) (.slice Ao48 t494.length co48)) (fun _ h_ => h_.1))) (Kd.R_base ho0) hb); have n3_ := zC.mk (Kd.R_lower (Kd.R_new' (Kd.R_new' (Kd.R_new' ho0 (Kd.R_lt (by (with_reducible repeat (first | apply Kd.R_alloc | apply Kd.R_drewN | apply Kd.R_drew)); exact (Kd.R_mono (Kd.R_far (p := ⟨gb497, 4, none⟩) (Kd.R_far (p := ⟨gb497, 3, none⟩) (Kd.R_far (p := ⟨gb497, 2, none⟩) (Kd.R_far (p := ⟨gb497, 1, none⟩) (Kd.R_far (p := ⟨gb497, 0, none⟩) (Kd.R_types HO485.out BK497.out (by decide)) (fun _ hk => hk.2) (.int .i64 t490)) (fun _ hk => hk.2) (.int .i64 t491)) (fun _ hk => hk.2) (.int .i64 t492)) (fun _ hk => hk.2) (.int .i64 t493)) (fun _ hk => hk.2) (.slice Ao48 t494.length co48)) (fun _ h_ => h_.1))))) (Kd.R_lt (by (with_reducible repeat (first | apply Kd.R_alloc | apply Kd.R_drewN | apply Kd.R_drew)); exact (Kd.R_mono (Kd.R_far (p := ⟨gb497, 4, none⟩) (Kd.R_far (p := ⟨gb497, 3, none⟩) (Kd.R_far (p := ⟨gb497, 2, none⟩) (Kd.R_far (p := ⟨gb497, 1, none⟩) (Kd.R_far (p := ⟨gb497, 0, none⟩) (Kd.R_types HO488.out BK497.out (by decide)) (fun _ hk => hk.2) (.int .i64 t490)) (fun _ hk => hk.2) (.int .i64 t491)) (fun _ hk => hk.2) (.int .i64 t492)) (fun _ hk => hk.2) (.int .i64 t493)) (fun _ hk => hk.2) (.slice Ao48 t494.length co48)) (fun _ h_ => h_.1))))) (Kd.R_lt (by (with_reducible repeat (first | apply Kd.R_alloc | apply Kd.R_drewN | apply Kd.R_drew)); exact (Kd.R_mono (Kd.R_far (p := ⟨gb497, 4, none⟩) (Kd.R_far (p := ⟨gb497, 3, none⟩) (Kd.R_far (p := ⟨gb497, 2, none⟩) (Kd.R_far (p := ⟨gb497, 1, none⟩) (Kd.R_far (p := ⟨gb497, 0, none⟩) (Kd.R_types HO496.out BK497.out (by decide)) (fun _ hk => hk.2) (.int .i64 t490)) (fun _ hk => hk.2) (.int .i64 t491)) (fun _ hk => hk.2) (.int .i64 t492)) (fun _ hk => hk.2) (.int .i64 t493)) (fun _ hk => hk.2) (.slice Ao48 t494.length co48)) (fun _ h_ => h_.1))))) (zM (by repeat (first | (with_reducible first | exact HB.out | apply zG | apply zA | apply zF | refine zH ?_ GE477.out | refine zH ?_ GE497.out) | exact HB.out)))); have n4_ := zC.mk (zK (g := gb477) (o := .cells #[.int .i64 a0_0, .int .i64 a0_1, .int .i64 a0_2, .int .i64 a0_3, .slice A0_4 l0_4.length c0_4] 26 (0, 0)) (by (with_reducible repeat (first | refine zE ?_ _ | refine zI ?_ | refine zD ?_ _)); refine zU ?_ NB477_497.out _; (with_reducible repeat (first | refine zE ?_ _ | refine zI ?_ | refine zD ?_ _)); refine zU ?_ NB477_497.out _; (with_reducible repeat (first | refine zE ?_ _ | refine zI ?_ | refine zD ?_ _)); refine zU ?_ NB477_497.out _; (with_reducible repeat (first | refine zE ?_ _ | refine zI ?_ | refine zD ?_ _)); refine zU ?_ NB477_497.out _; (with_reducible repeat (first | refine zE ?_ _ | refine zI ?_ | refine zD ?_ _)); refine zU ?_ NB477_497.out _; (with_reducible repeat (first | refine zE ?_ _ | refine zI ?_ | refine zD ?_ _)); exact BK477.out) hb); have n5_ := zC.mk (zK (g := gb497) (o := .cells #[.int .i64 t490, .int .i64 t491, .int .i64 t492, .int .i64 t493, .slice Ao48 t494.length co48] 32 (0, 0)) (by (with_reducible repeat (first | refine zE ?_ _ | refine zI ?_ | refine zD ?_ _)); refine zS (cs := #[.int .i64 t490, .int .i64 t491, .int .i64 t492, .int .i64 t493, .slice none 0 0]) ?_ 4 _ rfl; (with_reducible repeat (first | refine zE ?_ _ | refine zI ?_ | refine zD ?_ _)); refine zS (cs := #[.int .i64 t490, .int .i64 t491, .int .i64 t492, .int .i64 0, .slice none 0 0]) ?_ 3 _ rfl; (with_reducible repeat (first | refine zE ?_ _ | refine zI ?_ | refine zD ?_ _)); refine zS (cs := #[.int .i64 t490, .int .i64 t491, .int .i64 0, .int .i64 0, .slice none 0 0]) ?_ 2 _ rfl; (with_reducible repeat (first | refine zE ?_ _ | refine zI ?_ | refine zD ?_ _)); refine zS (cs := #[.int .i64 t490, .int .i64 0, .int .i64 0, .int .i64 0, .slice none 0 0]) ?_ 1 _ rfl; (with_reducible repeat (first | refine zE ?_ _ | refine zI ?_ | refine zD ?_ _)); refine zS (cs := #[.int .i64 0, .int .i64 0, .int .i64 0, .int .i64 0, .slice none 0 0]) ?_ 0 _ rfl; (with_reducible repeat (first | refine zE ?_ _ | refine zI ?_ | refine zD ?_ _)); exact BK497.out) hb); have n6_ := zC.mk (zL (by repeat (first | (with_reducible first | exact HB.out | apply zG | apply zA | apply zF | refine zH ?_ GE477.out | refine zH ?_ GE497.out) | exact HB.out)) hb); clear HO485; clear HO488; clear HO496; clear BK477; clear BK497; clear HB; have HO485 := n0_; have HO488 := n1_; have HO496 := n2_; have HO500 := n3_; have BK477 := n4_; have BK497 := n5_; have HB := n6_; clear n0_ n1_ n2_ n3_ n4_ n5_ n6_; (try clear hb); (try clear ho0); obtain ⟨Ao50, co50, eo50⟩ := Kd.R_slice HO500.out; subst eo50; obtain ⟨Ao51, co51, eo51⟩ := Kd.R_slice HO488.out; subst eo51) | ((with_reducible refine zP (f := 19) rfl ?_); refine zX (some 46) rfl rfl Try.func19 (by kernel_rfl) rfl #[.slice Ao50 t498.length co50, .slice Ao51 t486.length co51] rfl (by (try simp only [List.map_toArray, List.map_cons, List.map_nil]); first | done | rfl) ?_; (with_reducible refine (yN.calls k _ _ t498 _ _ t486 true _ ?side1 ?side2 ?side3 ?side4 A14.out).mono ?_); (case side1 => repeat (first | exact (Kd.R_reads' HO500.out).2.2 | (with_reducible refine Kd.C_alloc ?_ _) | (with_reducible refine Kd.C_drewN ?_ _) | (with_reducible refine Kd.C_drew ?_))); (case side2 => exact (Kd.R_reads' HO500.out).2.1); (case side3 => repeat (first | exact (Kd.R_reads' HO488.out).2.2 | (with_reducible refine Kd.C_alloc ?_ _) | (with_reducible refine Kd.C_drewN ?_ _) | (with_reducible refine Kd.C_drew ?_))); (case side4 => exact (Kd.R_reads' HO488.out).2.1); rintro e w' ⟨rfl, ⟨nd, rfl⟩⟩; refine ⟨_, rfl, ?_⟩))
             (try (rw [drewN_self w49]; generalize hq_ : World.drewN w49 _ = w49; have n0_ : zC (Kd.R (Kd.int .i64) 2 w49 w.heap.size (fun k_ => some k_ ≠ (.slice Ao51 t486.length co51 : Value).ownBlock ∧ some k_ ≠ (.slice Ao48 t494.length co48 : Value).ownBlock ∧ some k_ ≠ (.slice Ao50 t498.length co50 : Value).ownBlock) (.slice Ao41 t483.length co41) t483) := ⟨by rw [← hq_]; exact (by (with_reducible repeat (first | apply Kd.R_alloc | apply Kd.R_drewN | apply Kd.R_drew)); exact Kd.R_mono HO485.out (fun _ hk => ⟨hk.1.1.2, ⟨hk.1.2, hk.2⟩⟩))⟩; have n1_ : zC (Kd.R (Kd.int .i64) 2 w49 w.heap.size (fun k_ => some k_ ≠ (.slice Ao41 t483.length co41 : Value).ownBlock ∧ some k_ ≠ (.slice Ao48 t494.length co48 : Value).ownBlock ∧ some k_ ≠ (.slice Ao50 t498.length co50 : Value).ownBlock) (.slice Ao51 t486.length co51) t486) := ⟨by rw [← hq_]; exact (by (with_reducible repeat (first | apply Kd.R_alloc | apply Kd.R_drewN | apply Kd.R_drew)); exact Kd.R_mono HO488.out (fun _ hk => ⟨hk.1.1.2, ⟨hk.1.2, hk.2⟩⟩))⟩; have n2_ : zC (Kd.R (Kd.int .i64) 2 w49 w.heap.size (fun k_ => some k_ ≠ (.slice Ao41 t483.length co41 : Value).ownBlock ∧ some k_ ≠ (.slice Ao51 t486.length co51 : Value).ownBlock ∧ some k_ ≠ (.slice Ao50 t498.length co50 : Value).ownBlock) (.slice Ao48 t494.length co48) t494) := ⟨by rw [← hq_]; exact (by (with_reducible repeat (first | apply Kd.R_alloc | apply Kd.R_drewN | apply Kd.R_drew)); exact Kd.R_mono HO496.out (fun _ hk => ⟨hk.1.1.2, ⟨hk.1.2, hk.2⟩⟩))⟩; have n3_ : zC (Kd.R (Kd.int .i64) 2 w49 w.heap.size (fun k_ => some k_ ≠ (.slice Ao41 t483.length co41 : Value).ownBlock ∧ some k_ ≠ (.slice Ao51 t486.length co51 : Value).ownBlock ∧ some k_ ≠ (.slice Ao48 t494.length co48 : Value).ownBlock) (.slice Ao50 t498.length co50) t498) := ⟨by rw [← hq_]; exact (by (with_reducible repeat (first | apply Kd.R_alloc | apply Kd.R_drewN | apply Kd.R_drew)); exact Kd.R_mono HO500.out (fun _ hk => ⟨hk.1.1.2, ⟨hk.1.2, hk.2⟩⟩))⟩; have n4_ : zC (w49.heap[gb477]? = some (.cells #[.int .i64 a0_0, .int .i64 a0_1, .int .i64 a0_2, .int .i64 a0_3, .slice A0_4 l0_4.length c0_4] 26 (0, 0))) := ⟨by rw [← hq_]; exact (by (with_reducible repeat (first | refine zE ?_ _ | refine zI ?_ | refine zD ?_ _)); exact BK477.out)⟩; have n5_ : zC (w49.heap[gb497]? = some (.cells #[.int .i64 t490, .int .i64 t491, .int .i64 t492, .int .i64 t493, .slice Ao48 t494.length co48] 32 (0, 0))) := ⟨by rw [← hq_]; exact (by (with_reducible repeat (first | refine zE ?_ _ | refine zI ?_ | refine zD ?_ _)); exact BK497.out)⟩; have n6_ : zC (Below w.heap.size w w49) := ⟨by rw [← hq_]; exact (by repeat (first | (with_reducible first | exact HB.out | apply zG | apply zA | apply zF | refine zH ?_ GE477.out | refine zH ?_ GE497.out) | exact HB.out))⟩; clear HO485 HO488 HO496 HO500 BK477 BK497 HB hq_; have HO485 := n0_; have HO488 := n1_; have HO496 := n2_; have HO500 := n3_; have BK477 := n4_; have BK497 := n5_; have HB := n6_; clear n0_ n1_ n2_ n3_ n4_ n5_ n6_))
             have n0_ := zC.mk (Kd.R_drew HO485.out)
             have n1_ := zC.mk (Kd.R_drew HO488.out)
             have n2_ := zC.mk (Kd.R_drew HO496.out)
             have n3_ := zC.mk (Kd.R_drew HO500.out)
             have n4_ := zC.mk (zI BK477.out)
             have n5_ := zC.mk (zI BK497.out)
             have n6_ := zC.mk (zF HB.out)
             clear HO485
             clear HO488
             clear HO496
             clear HO500
             clear BK477
             clear BK497
             clear HB
             have HO485 := n0_
             have HO488 := n1_
             have HO496 := n2_
             have HO500 := n3_
             have BK477 := n4_
             have BK497 := n5_
             have HB := n6_
             clear n0_ n1_ n2_ n3_ n4_ n5_ n6_
             refine start_ (n := 5) (S := fun w' => w'.cell? ⟨gb497, 0, none⟩ = some (.int .i64 t490) ∧ w'.cell? ⟨gb497, 1, none⟩ = some (.int .i64 t491) ∧ w'.cell? ⟨gb497, 2, none⟩ = some (.int .i64 t492) ∧ w'.cell? ⟨gb497, 3, none⟩ = some (.int .i64 t493) ∧ w'.cell? ⟨gb497, 4, none⟩ = some (.slice Ao48 t494.length co48) ∧ w'.cell? ⟨gb477, 0, none⟩ = some (.int .i64 a0_0) ∧ w'.cell? ⟨gb477, 1, none⟩ = some (.int .i64 a0_1) ∧ w'.cell? ⟨gb477, 2, none⟩ = some (.int .i64 a0_2) ∧ w'.cell? ⟨gb477, 3, none⟩ = some (.int .i64 a0_3) ∧ w'.cell? ⟨gb477, 4, none⟩ = some (.slice A0_4 l0_4.length c0_4)) (ds := []) #[false, false, false, false, false] (by kernel_rfl) rfl rfl ⟨zB BK497.out 0, zB BK497.out 1, zB BK497.out 2, zB BK497.out 3, zB BK497.out 4, zB BK477.out 0, zB BK477.out 1, zB BK477.out 2, zB BK477.out 3, zB BK477.out 4⟩ (fun hHeld => ?_)
             generalize w49.drew = w52 at HO485 HO488 HO496 HO500 BK477 BK497 HB hHeld ⊢
             refine yC (i := 0) (N := some 53) (v := ?_) (a' := ?_) #[true, false, false, false, false] rfl rfl (by kernel_rfl) (fun _ _ _ h => h) (Or.inl ⟨by rfl, ?_⟩) hHeld ?_ ?_
             rotate_left
             ·
              rintro w' ⟨s0, s1, s2, s3, s4, s5, s6, s7, s8, s9⟩
              go_simp
              with_reducible rfl
             rotate_left
             ·
              go_simp
              rfl
             refine yC (i := 1) (N := some 54) (v := ?_) (a' := ?_) #[true, true, false, false, false] rfl rfl (by kernel_rfl) (fun _ _ _ h => h) (Or.inl ⟨by rfl, ?_⟩) hHeld ?_ ?_
             rotate_left
             ·
              rintro w' ⟨s0, s1, s2, s3, s4, s5, s6, s7, s8, s9⟩
              go_simp
              with_reducible rfl
             rotate_left
             ·
              go_simp
              rfl
             refine one_ (i := 2) (N := some 55) #[true, true, true, false, false] rfl rfl (by kernel_rfl) (by decide) (fun K hK => ?_)
             refine yD Try.func14 (by kernel_rfl) rfl #[.agg #[.int .i64 a0_0, .int .i64 a0_1, .int .i64 a0_2, .int .i64 a0_3, .slice A0_4 l0_4.length c0_4]] (by rfl) rfl rfl (by (try simp only [List.map_toArray, List.map_cons, List.map_nil]); first | done | rfl) ?_
             with_reducible refine (yZ.calls k a0_0 a0_1 a0_2 a0_3 _ _ l0_4 t503 t504 t505 t506 t507 _ ?side1 ?side2 A17.out).mono ?_
             (case side1 => repeat (first | exact (Kd.C_below HR0_4.out HB.out) | (with_reducible refine Kd.C_alloc ?_ _) | (with_reducible refine Kd.C_drewN ?_ _) | (with_reducible refine Kd.C_drew ?_)))
             (case side2 => exact HC0_4.out)
             rintro e w53 ⟨v508, rfl, ho0, hb⟩
             refine ⟨_, rfl, ?_⟩
             have n0_ := zC.mk (Kd.R_elder' (by (with_reducible repeat (first | apply Kd.R_alloc | apply Kd.R_drewN | apply Kd.R_drew)); exact HO485.out) (Kd.R_base ho0) hb)
             have n1_ := zC.mk (Kd.R_elder' (by (with_reducible repeat (first | apply Kd.R_alloc | apply Kd.R_drewN | apply Kd.R_drew)); exact HO488.out) (Kd.R_base ho0) hb)
             have n2_ := zC.mk (Kd.R_elder' (by (with_reducible repeat (first | apply Kd.R_alloc | apply Kd.R_drewN | apply Kd.R_drew)); exact HO496.out) (Kd.R_base ho0) hb)
             have n3_ := zC.mk (Kd.R_elder' (by (with_reducible repeat (first | apply Kd.R_alloc | apply Kd.R_drewN | apply Kd.R_drew)); exact HO500.out) (Kd.R_base ho0) hb)
             have n4_ := zC.mk (Kd.R_lower (Kd.R_new' (Kd.R_new' (Kd.R_new' (Kd.R_new' ho0 (Kd.R_lt (by (with_reducible repeat (first | apply Kd.R_alloc | apply Kd.R_drewN | apply Kd.R_drew)); exact HO485.out))) (Kd.R_lt (by (with_reducible repeat (first | apply Kd.R_alloc | apply Kd.R_drewN | apply Kd.R_drew)); exact HO488.out))) (Kd.R_lt (by (with_reducible repeat (first | apply Kd.R_alloc | apply Kd.R_drewN | apply Kd.R_drew)); exact HO496.out))) (Kd.R_lt (by (with_reducible repeat (first | apply Kd.R_alloc | apply Kd.R_drewN | apply Kd.R_drew)); exact HO500.out))) (zM (by repeat (first | (with_reducible first | exact HB.out | apply zG | apply zA | apply zF | refine zH ?_ GE477.out | refine zH ?_ GE497.out) | exact HB.out))))
             have n5_ := zC.mk (zK (g := gb477) (o := .cells #[.int .i64 a0_0, .int .i64 a0_1, .int .i64 a0_2, .int .i64 a0_3, .slice A0_4 l0_4.length c0_4] 26 (0, 0)) (by (with_reducible repeat (first | refine zE ?_ _ | refine zI ?_ | refine zD ?_ _)); exact BK477.out) hb)
             have n6_ := zC.mk (zK (g := gb497) (o := .cells #[.int .i64 t490, .int .i64 t491, .int .i64 t492, .int .i64 t493, .slice Ao48 t494.length co48] 32 (0, 0)) (by (with_reducible repeat (first | refine zE ?_ _ | refine zI ?_ | refine zD ?_ _)); exact BK497.out) hb)
             have n7_ := zC.mk (zL (by repeat (first | (with_reducible first | exact HB.out | apply zG | apply zA | apply zF | refine zH ?_ GE477.out | refine zH ?_ GE497.out) | exact HB.out)) hb)
             clear HO485
             clear HO488
             clear HO496
             clear HO500
             clear BK477
             clear BK497
             clear HB
             have HO485 := n0_
             have HO488 := n1_
             have HO496 := n2_
             have HO500 := n3_
             have HO509 := n4_
             have BK477 := n5_
             have BK497 := n6_
             have HB := n7_
             clear n0_ n1_ n2_ n3_ n4_ n5_ n6_ n7_
             (try clear hb)
             (try clear ho0)
             obtain ⟨Ao54, co54, eo54⟩ := Kd.R_slice HO509.out
             (first | subst eo54 | (injection eo54 with f1_ f2_ f3_; have f4_ := f1_.symm; have f5_ := f3_.symm; clear f1_ f2_ f3_; subst f4_; subst f5_))
             refine hK.out _ _ ⟨zB BK497.out 0, zB BK497.out 1, zB BK497.out 2, zB BK497.out 3, zB BK497.out 4, zB BK477.out 0, zB BK477.out 1, zB BK477.out 2, zB BK477.out 3, zB BK477.out 4⟩ (fun hHeld => ?_)
             clear hK K
             refine yA (a' := ?_) ?_ ?_
             rotate_left
             ·
              show Act.put _ (some 55) _ = _
              go_simp
              rfl
             refine one_ (i := 3) (N := some 56) #[true, true, true, true, false] rfl rfl (by kernel_rfl) (by decide) (fun K hK => ?_)
             refine yD Try.func16 (by kernel_rfl) rfl #[.agg #[.int .i64 t490, .int .i64 t491, .int .i64 t492, .int .i64 t493, .slice Ao48 t494.length co48], .agg #[.int .i64 t503, .int .i64 t504, .int .i64 t505, .int .i64 t506, .slice Ao54 t507.length co54]] (by rfl) rfl rfl (by (try simp only [List.map_toArray, List.map_cons, List.map_nil]); first | done | rfl) ?_
             with_reducible refine (xJ.calls k t490 t491 t492 t493 _ _ t494 t503 t504 t505 t506 _ _ t507 true _ ?side1 ?side2 ?side3 ?side4 A18.out).mono ?_
             (case side1 => repeat (first | exact (Kd.R_reads' HO496.out).2.2 | (with_reducible refine Kd.C_alloc ?_ _) | (with_reducible refine Kd.C_drewN ?_ _) | (with_reducible refine Kd.C_drew ?_)))
             (case side2 => exact (Kd.R_reads' HO496.out).2.1)
             (case side3 => repeat (first | exact (Kd.R_reads' HO509.out).2.2 | (with_reducible refine Kd.C_alloc ?_ _) | (with_reducible refine Kd.C_drewN ?_ _) | (with_reducible refine Kd.C_drew ?_)))
             (case side4 => exact (Kd.R_reads' HO509.out).2.1)
             rintro e w55 ⟨rfl, hb⟩
             refine ⟨_, rfl, ?_⟩
             have n0_ := zC.mk (Kd.R_below (by (with_reducible repeat (first | apply Kd.R_alloc | apply Kd.R_drewN | apply Kd.R_drew)); exact HO485.out) hb)
             have n1_ := zC.mk (Kd.R_below (by (with_reducible repeat (first | apply Kd.R_alloc | apply Kd.R_drewN | apply Kd.R_drew)); exact HO488.out) hb)
             have n2_ := zC.mk (Kd.R_below (by (with_reducible repeat (first | apply Kd.R_alloc | apply Kd.R_drewN | apply Kd.R_drew)); exact HO496.out) hb)
             have n3_ := zC.mk (Kd.R_below (by (with_reducible repeat (first | apply Kd.R_alloc | apply Kd.R_drewN | apply Kd.R_drew)); exact HO500.out) hb)
             have n4_ := zC.mk (Kd.R_below (by (with_reducible repeat (first | apply Kd.R_alloc | apply Kd.R_drewN | apply Kd.R_drew)); exact HO509.out) hb)
             have n5_ := zC.mk (zK (g := gb477) (o := .cells #[.int .i64 a0_0, .int .i64 a0_1, .int .i64 a0_2, .int .i64 a0_3, .slice A0_4 l0_4.length c0_4] 26 (0, 0)) (by (with_reducible repeat (first | refine zE ?_ _ | refine zI ?_ | refine zD ?_ _)); exact BK477.out) hb)
             have n6_ := zC.mk (zK (g := gb497) (o := .cells #[.int .i64 t490, .int .i64 t491, .int .i64 t492, .int .i64 t493, .slice Ao48 t494.length co48] 32 (0, 0)) (by (with_reducible repeat (first | refine zE ?_ _ | refine zI ?_ | refine zD ?_ _)); exact BK497.out) hb)
             have n7_ := zC.mk (zL (by repeat (first | (with_reducible first | exact HB.out | apply zG | apply zA | apply zF | refine zH ?_ GE477.out | refine zH ?_ GE497.out) | exact HB.out)) hb)
             clear HO485
             clear HO488
             clear HO496
             clear HO500
             clear HO509
             clear BK477
             clear BK497
             clear HB
             have HO485 := n0_
             have HO488 := n1_
             have HO496 := n2_
             have HO500 := n3_
             have HO509 := n4_
             have BK477 := n5_
             have BK497 := n6_
             have HB := n7_
             clear n0_ n1_ n2_ n3_ n4_ n5_ n6_ n7_
             (try clear hb)
             refine hK.out _ _ ⟨zB BK497.out 0, zB BK497.out 1, zB BK497.out 2, zB BK497.out 3, zB BK497.out 4, zB BK477.out 0, zB BK477.out 1, zB BK477.out 2, zB BK477.out 3, zB BK477.out 4⟩ (fun hHeld => ?_)
             clear hK K
             refine yA (a' := ?_) ?_ ?_
             rotate_left
             ·
              show Act.put _ (some 56) _ = _
              go_simp
              rfl
             refine zR (i := 4) (N := some 57) (v := ?_) (a' := ?_) #[true, true, true, true, true] rfl rfl (by kernel_rfl) (fun _ _ _ h => h) (Or.inl ⟨by rfl, ?_⟩) ?_ ?_
             rotate_left
             ·
              intro w'
              go_simp
              with_reducible rfl
             rotate_left
             ·
              go_simp
              rfl
             refine done_ (by kernel_rfl) ?_
             have hcz56_0 : w55.cell? ⟨gb497, 0, none⟩ = some (.int .i64 t490) := zB BK497.out 0
             have hcz56_1 : w55.cell? ⟨gb497, 1, none⟩ = some (.int .i64 t491) := zB BK497.out 1
             have hcz56_2 : w55.cell? ⟨gb497, 2, none⟩ = some (.int .i64 t492) := zB BK497.out 2
             have hcz56_3 : w55.cell? ⟨gb497, 3, none⟩ = some (.int .i64 t493) := zB BK497.out 3
             have hcz56_4 : w55.cell? ⟨gb497, 4, none⟩ = some (.slice Ao48 t494.length co48) := zB BK497.out 4
             have hfz56_0 := zJ BK497.out 0
             have hfz56_1 := zJ BK497.out 1
             have hfz56_2 := zJ BK497.out 2
             have hfz56_3 := zJ BK497.out 3
             have hfz56_4 := zJ BK497.out 4
             try go_wp2_with (first | ((with_reducible refine zP (f := 20) rfl ?_); refine zX (some 60) rfl rfl Try.func20 (by kernel_rfl) rfl #[.agg #[.int .i64 t490, .int .i64 t491, .int .i64 t492, .int .i64 t493, .slice Ao48 t494.length co48], .int .i64 1] rfl (by (try simp only [List.map_toArray, List.map_cons, List.map_nil]); first | done | rfl) ?_; (with_reducible refine (xH.calls k t490 t491 t492 t493 (fun k_ => some k_ = (.slice Ao48 t494.length co48 : Value).ownBlock) (.slice Ao48 t494.length co48) t494 1 t511 t512 w _ ?side1 ?side2 A20.out).mono ?_); (case side1 => repeat (first | (with_reducible first | exact HB.out | apply zG | apply zA | apply zF | refine zH ?_ GE477.out | refine zH ?_ GE497.out) | exact HB.out)); (case side2 => exact Kd.R_tight rfl HO496.out); rintro e w57 ⟨rfl, hy0, hb, hkp⟩; refine ⟨_, rfl, ?_⟩; have n0_ := zC.mk (blk_kept (by (with_reducible repeat (first | refine zE ?_ _ | refine zI ?_ | refine zD ?_ _)); exact BK477.out) hkp (fun hs_ => (fun e_ => (Kd.R_ne HO496.out BK477.out (by decide)) e_) hs_)); have n1_ := zC.mk (Kd.R_mono (ok' := fun k_ => some k_ ≠ (.slice Ao51 t486.length co51 : Value).ownBlock ∧ some k_ ≠ (.slice Ao48 t494.length co48 : Value).ownBlock ∧ some k_ ≠ (.slice Ao50 t498.length co50 : Value).ownBlock ∧ some k_ ≠ (.slice Ao54 t507.length co54 : Value).ownBlock) (Kd.R_keptB (HO485.out) hkp (fun k_ hk_ hs_ => by first | exact (hk_.1.1.2) hs_ | (have hs2_ : some k_ = _ := hs_; simp only [hk_] at hs2_))) (fun k_ hk_ => by first | exact ⟨hk_.1.1.1.1.2, hk_.1.1.1.2, hk_.1.1.2, hk_.1.2⟩ | (simp only [hk_, ne_eq, not_false_eq_true, and_self]))); have n2_ := zC.mk (Kd.R_mono (ok' := fun k_ => some k_ ≠ (.slice Ao41 t483.length co41 : Value).ownBlock ∧ some k_ ≠ (.slice Ao48 t494.length co48 : Value).ownBlock ∧ some k_ ≠ (.slice Ao50 t498.length co50 : Value).ownBlock ∧ some k_ ≠ (.slice Ao54 t507.length co54 : Value).ownBlock) (Kd.R_keptB (HO488.out) hkp (fun k_ hk_ hs_ => by first | exact (hk_.1.1.2) hs_ | (have hs2_ : some k_ = _ := hs_; simp only [hk_] at hs2_))) (fun k_ hk_ => by first | exact ⟨hk_.1.1.1.1.2, hk_.1.1.1.2, hk_.1.1.2, hk_.1.2⟩ | (simp only [hk_, ne_eq, not_false_eq_true, and_self]))); have n3_ := zC.mk (Kd.R_reok rfl hy0 (fun k_ e_ => HO496.out.1 k_ e_)); have n4_ := zC.mk (blk_kept (by (with_reducible repeat (first | refine zE ?_ _ | refine zI ?_ | refine zD ?_ _)); exact BK497.out) hkp (fun hs_ => (fun e_ => (Kd.R_ne HO496.out BK497.out (by decide)) e_) hs_)); have n5_ := zC.mk (Kd.R_mono (ok' := fun k_ => some k_ ≠ (.slice Ao41 t483.length co41 : Value).ownBlock ∧ some k_ ≠ (.slice Ao51 t486.length co51 : Value).ownBlock ∧ some k_ ≠ (.slice Ao48 t494.length co48 : Value).ownBlock ∧ some k_ ≠ (.slice Ao54 t507.length co54 : Value).ownBlock) (Kd.R_keptB (HO500.out) hkp (fun k_ hk_ hs_ => by first | exact (hk_.1.2) hs_ | (have hs2_ : some k_ = _ := hs_; simp only [hk_] at hs2_))) (fun k_ hk_ => by first | exact ⟨hk_.1.1.1.1.2, hk_.1.1.1.2, hk_.1.1.2, hk_.1.2⟩ | (simp only [hk_, ne_eq, not_false_eq_true, and_self]))); have n6_ := zC.mk (Kd.R_mono (ok' := fun k_ => some k_ ≠ (.slice Ao41 t483.length co41 : Value).ownBlock ∧ some k_ ≠ (.slice Ao51 t486.length co51 : Value).ownBlock ∧ some k_ ≠ (.slice Ao48 t494.length co48 : Value).ownBlock ∧ some k_ ≠ (.slice Ao50 t498.length co50 : Value).ownBlock) (Kd.R_keptB (HO509.out) hkp (fun k_ hk_ hs_ => by first | exact (hk_.1.2) hs_ | (have hs2_ : some k_ = _ := hs_; simp only [hk_] at hs2_))) (fun k_ hk_ => by first | exact ⟨hk_.1.1.1.1.2, hk_.1.1.1.2, hk_.1.1.2, hk_.1.2⟩ | (simp only [hk_, ne_eq, not_false_eq_true, and_self]))); have n7_ := zC.mk (hb); clear BK477; clear HO485; clear HO488; clear HO496; clear BK497; clear HO500; clear HO509; clear HB; have BK477 := n0_; have HO485 := n1_; have HO488 := n2_; have HO496 := n3_; have BK497 := n4_; have HO500 := n5_; have HO509 := n6_; have HB := n7_; clear n0_ n1_ n2_ n3_ n4_ n5_ n6_ n7_; (try clear hb); (try clear hkp); (try clear hy0)) | (go_at_call 19; (with_reducible refine (yN.calls k _ _ t498 _ _ t486 true _ ?side1 ?side2 ?side3 ?side4 A22.out).mono ?_); (case side1 => repeat (first | exact (Kd.R_reads' HO500.out).2.2 | (with_reducible refine Kd.C_alloc ?_ _) | (with_reducible refine Kd.C_drewN ?_ _) | (with_reducible refine Kd.C_drew ?_))); (case side2 => exact (Kd.R_reads' HO500.out).2.1); (case side3 => repeat (first | exact (Kd.R_reads' HO488.out).2.2 | (with_reducible refine Kd.C_alloc ?_ _) | (with_reducible refine Kd.C_drewN ?_ _) | (with_reducible refine Kd.C_drew ?_))); (case side4 => exact (Kd.R_reads' HO488.out).2.1); rintro e w' ⟨rfl, ⟨nd, rfl⟩⟩) | ((with_reducible refine zP (f := 21) rfl ?_); refine zX (some 76) rfl rfl Try.func21 (by kernel_rfl) rfl #[.slice Ao50 t498.length co50, .int .i64 1] rfl (by (try simp only [List.map_toArray, List.map_cons, List.map_nil]); first | done | rfl) ?_; (with_reducible refine (yQ.calls k (fun k_ => some k_ = (.slice Ao50 t498.length co50 : Value).ownBlock) (.slice Ao50 t498.length co50) t498 1 t514 t515 w _ ?side1 ?side2 A24.out).mono ?_); (case side1 => repeat (first | (with_reducible first | exact HB.out | apply zG | apply zA | apply zF | refine zH ?_ GE477.out | refine zH ?_ GE497.out) | exact HB.out)); (case side2 => exact Kd.R_tight rfl HO500.out); rintro e w58 ⟨rfl, hy0, hb, hkp⟩; refine ⟨_, rfl, ?_⟩; have n0_ := zC.mk (blk_kept (by (with_reducible repeat (first | refine zE ?_ _ | refine zI ?_ | refine zD ?_ _)); exact BK477.out) hkp (fun hs_ => (fun e_ => (Kd.R_ne HO500.out BK477.out (by decide)) e_) hs_)); have n1_ := zC.mk (Kd.R_mono (ok' := fun k_ => some k_ ≠ (.slice Ao51 t486.length co51 : Value).ownBlock ∧ some k_ ≠ (.slice Ao48 t494.length co48 : Value).ownBlock ∧ some k_ ≠ (.slice Ao50 t498.length co50 : Value).ownBlock ∧ some k_ ≠ (.slice Ao54 t507.length co54 : Value).ownBlock) (Kd.R_keptB (HO485.out) hkp (fun k_ hk_ hs_ => by first | exact (hk_.2.2.1) hs_ | (have hs2_ : some k_ = _ := hs_; simp only [hk_] at hs2_))) (fun k_ hk_ => by first | exact ⟨hk_.1.1, hk_.1.2.1, hk_.1.2.2.1, hk_.1.2.2.2⟩ | (simp only [hk_, ne_eq, not_false_eq_true, and_self]))); have n2_ := zC.mk (Kd.R_mono (ok' := fun k_ => some k_ ≠ (.slice Ao41 t483.length co41 : Value).ownBlock ∧ some k_ ≠ (.slice Ao48 t494.length co48 : Value).ownBlock ∧ some k_ ≠ (.slice Ao50 t498.length co50 : Value).ownBlock ∧ some k_ ≠ (.slice Ao54 t507.length co54 : Value).ownBlock) (Kd.R_keptB (HO488.out) hkp (fun k_ hk_ hs_ => by first | exact (hk_.2.2.1) hs_ | (have hs2_ : some k_ = _ := hs_; simp only [hk_] at hs2_))) (fun k_ hk_ => by first | exact ⟨hk_.1.1, hk_.1.2.1, hk_.1.2.2.1, hk_.1.2.2.2⟩ | (simp only [hk_, ne_eq, not_false_eq_true, and_self]))); have n3_ := zC.mk (Kd.R_mono (ok' := fun k_ => some k_ ≠ (.slice Ao41 t483.length co41 : Value).ownBlock ∧ some k_ ≠ (.slice Ao51 t486.length co51 : Value).ownBlock ∧ some k_ ≠ (.slice Ao50 t498.length co50 : Value).ownBlock ∧ some k_ ≠ (.slice Ao54 t507.length co54 : Value).ownBlock) (Kd.R_keptB (HO496.out) hkp (fun k_ hk_ hs_ => by first | exact (hk_.1.2) hs_ | (have hs2_ : some k_ = _ := hs_; simp only [hk_] at hs2_))) (fun k_ hk_ => by first | exact ⟨hk_.1.1.1.1.2, hk_.1.1.1.2, hk_.1.1.2, hk_.1.2⟩ | (simp only [hk_, ne_eq, not_false_eq_true, and_self]))); have n4_ := zC.mk (blk_kept (by (with_reducible repeat (first | refine zE ?_ _ | refine zI ?_ | refine zD ?_ _)); exact BK497.out) hkp (fun hs_ => (fun e_ => (Kd.R_ne HO500.out BK497.out (by decide)) e_) hs_)); have n5_ := zC.mk (Kd.R_reok rfl hy0 (fun k_ e_ => HO500.out.1 k_ e_)); have n6_ := zC.mk (Kd.R_mono (ok' := fun k_ => some k_ ≠ (.slice Ao41 t483.length co41 : Value).ownBlock ∧ some k_ ≠ (.slice Ao51 t486.length co51 : Value).ownBlock ∧ some k_ ≠ (.slice Ao48 t494.length co48 : Value).ownBlock ∧ some k_ ≠ (.slice Ao50 t498.length co50 : Value).ownBlock) (Kd.R_keptB (HO509.out) hkp (fun k_ hk_ hs_ => by first | exact (hk_.2.2.2) hs_ | (have hs2_ : some k_ = _ := hs_; simp only [hk_] at hs2_))) (fun k_ hk_ => by first | exact ⟨hk_.1.1, hk_.1.2.1, hk_.1.2.2.1, hk_.1.2.2.2⟩ | (simp only [hk_, ne_eq, not_false_eq_true, and_self]))); have n7_ := zC.mk (hb); clear BK477; clear HO485; clear HO488; clear HO496; clear BK497; clear HO500; clear HO509; clear HB; have BK477 := n0_; have HO485 := n1_; have HO488 := n2_; have HO496 := n3_; have BK497 := n4_; have HO500 := n5_; have HO509 := n6_; have HB := n7_; clear n0_ n1_ n2_ n3_ n4_ n5_ n6_ n7_; (try clear hb); (try clear hkp); (try clear hy0)) | ((with_reducible refine zP (f := 22) rfl ?_); refine zX (some 79) rfl rfl Try.func22 (by kernel_rfl) rfl #[.slice Ao50 t515.length co50, .int .i64 1] rfl (by (try simp only [List.map_toArray, List.map_cons, List.map_nil]); first | done | (rw [show t515.length = t498.length from (Kd.R_reads' HO500.out).1.symm] <;> rfl) | rfl | (simp only [List.length_drop, List.length_take]; rfl)) ?_; (with_reducible refine (yL.calls k _ _ t515 1 t516 _ ?side1 ?side2 A25.out).mono ?_); (case side1 => repeat (first | exact (Kd.R_reads' HO500.out).2.2 | (with_reducible refine Kd.C_alloc ?_ _) | (with_reducible refine Kd.C_drewN ?_ _) | (with_reducible refine Kd.C_drew ?_))); (case side2 => rw [show t515.length = t498.length from (Kd.R_reads' HO500.out).1.symm]; exact (Kd.R_reads' HO500.out).2.1); rintro e w' ⟨rfl, ⟨nd, rfl⟩⟩; refine ⟨_, rfl, ?_⟩; have hcz59_0 : w58.cell? ⟨gb477, 0, none⟩ = some (.int .i64 a0_0) := zB BK477.out 0; have hcz59_1 : w58.cell? ⟨gb477, 1, none⟩ = some (.int .i64 a0_1) := zB BK477.out 1; have hcz59_2 : w58.cell? ⟨gb477, 2, none⟩ = some (.int .i64 a0_2) := zB BK477.out 2; have hcz59_3 : w58.cell? ⟨gb477, 3, none⟩ = some (.int .i64 a0_3) := zB BK477.out 3; have hcz59_4 : w58.cell? ⟨gb477, 4, none⟩ = some (.slice A0_4 l0_4.length c0_4) := zB BK477.out 4; have hfz59_0 := zJ BK477.out 0; have hfz59_1 := zJ BK477.out 1; have hfz59_2 := zJ BK477.out 2; have hfz59_3 := zJ BK477.out 3; have hfz59_4 := zJ BK477.out 4) | ((with_reducible refine zP (f := 14) rfl ?_); refine zX (some 87) rfl rfl Try.func14 (by kernel_rfl) rfl #[.agg #[.int .i64 a0_0, .int .i64 a0_1, .int .i64 a0_2, .int .i64 a0_3, .slice A0_4 l0_4.length c0_4]] rfl (by (try simp only [List.map_toArray, List.map_cons, List.map_nil]); first | done | rfl) ?_; (with_reducible refine (yZ.calls k a0_0 a0_1 a0_2 a0_3 _ _ l0_4 t517 t518 t519 t520 t521 _ ?side1 ?side2 A28.out).mono ?_); (case side1 => repeat (first | exact (Kd.C_below HR0_4.out (by repeat (first | (with_reducible first | exact HB.out | apply zG | apply zA | apply zF | refine zH ?_ GE477.out | refine zH ?_ GE497.out) | exact HB.out))) | (with_reducible refine Kd.C_alloc ?_ _) | (with_reducible refine Kd.C_drewN ?_ _) | (with_reducible refine Kd.C_drew ?_))); (case side2 => exact HC0_4.out); rintro e w60 ⟨v522, rfl, ho0, hb⟩; refine ⟨_, rfl, ?_⟩; have n0_ := zC.mk (Kd.R_elder' (by (with_reducible repeat (first | apply Kd.R_alloc | apply Kd.R_drewN | apply Kd.R_drew)); exact HO485.out) (Kd.R_base ho0) hb); have n1_ := zC.mk (Kd.R_elder' (by (with_reducible repeat (first | apply Kd.R_alloc | apply Kd.R_drewN | apply Kd.R_drew)); exact HO488.out) (Kd.R_base ho0) hb); have n2_ := zC.mk (Kd.R_elder' (by (with_reducible repeat (first | apply Kd.R_alloc | apply Kd.R_drewN | apply Kd.R_drew)); exact HO496.out) (Kd.R_base ho0) hb); have n3_ := zC.mk (Kd.R_elder' (by (with_reducible repeat (first | apply Kd.R_alloc | apply Kd.R_drewN | apply Kd.R_drew)); exact HO500.out) (Kd.R_base ho0) hb); have n4_ := zC.mk (Kd.R_elder' (by (with_reducible repeat (first | apply Kd.R_alloc | apply Kd.R_drewN | apply Kd.R_drew)); exact HO509.out) (Kd.R_base ho0) hb); have n5_ := zC.mk (Kd.R_lower (Kd.R_new' (Kd.R_new' (Kd.R_new' (Kd.R_new' (Kd.R_new' ho0 (Kd.R_lt (by (with_reducible repeat (first | apply Kd.R_alloc | apply Kd.R_drewN | apply Kd.R_drew)); exact HO485.out))) (Kd.R_lt (by (with_reducible repeat (first | apply Kd.R_alloc | apply Kd.R_drewN | apply Kd.R_drew)); exact HO488.out))) (Kd.R_lt (by (with_reducible repeat (first | apply Kd.R_alloc | apply Kd.R_drewN | apply Kd.R_drew)); exact HO496.out))) (Kd.R_lt (by (with_reducible repeat (first | apply Kd.R_alloc | apply Kd.R_drewN | apply Kd.R_drew)); exact HO500.out))) (Kd.R_lt (by (with_reducible repeat (first | apply Kd.R_alloc | apply Kd.R_drewN | apply Kd.R_drew)); exact HO509.out))) (zM (by repeat (first | (with_reducible first | exact HB.out | apply zG | apply zA | apply zF | refine zH ?_ GE477.out | refine zH ?_ GE497.out) | exact HB.out)))); have n6_ := zC.mk (zK (g := gb477) (o := .cells #[.int .i64 a0_0, .int .i64 a0_1, .int .i64 a0_2, .int .i64 a0_3, .slice A0_4 l0_4.length c0_4] 26 (0, 0)) (by (with_reducible repeat (first | refine zE ?_ _ | refine zI ?_ | refine zD ?_ _)); exact BK477.out) hb); have n7_ := zC.mk (zK (g := gb497) (o := .cells #[.int .i64 t490, .int .i64 t491, .int .i64 t492, .int .i64 t493, .slice Ao48 t494.length co48] 32 (0, 0)) (by (with_reducible repeat (first | refine zE ?_ _ | refine zI ?_ | refine zD ?_ _)); exact BK497.out) hb); have n8_ := zC.mk (zL (by repeat (first | (with_reducible first | exact HB.out | apply zG | apply zA | apply zF | refine zH ?_ GE477.out | refine zH ?_ GE497.out) | exact HB.out)) hb); clear HO485; clear HO488; clear HO496; clear HO500; clear HO509; clear BK477; clear BK497; clear HB; have HO485 := n0_; have HO488 := n1_; have HO496 := n2_; have HO500 := n3_; have HO509 := n4_; have HO523 := n5_; have BK477 := n6_; have BK497 := n7_; have HB := n8_; clear n0_ n1_ n2_ n3_ n4_ n5_ n6_ n7_ n8_; (try clear hb); (try clear ho0); obtain ⟨Ao61, co61, eo61⟩ := Kd.R_slice HO523.out; subst eo61) | ((with_reducible refine zP (f := 18) rfl ?_); refine zX (some 91) rfl rfl Try.func18 (by kernel_rfl) rfl #[.agg #[.int .i64 t517, .int .i64 t518, .int .i64 t519, .int .i64 t520, .slice Ao61 t521.length co61], .int .i64 a1, .int .i64 a2, .int .i64 a3] rfl (by (try simp only [List.map_toArray, List.map_cons, List.map_nil]); first | done | rfl) ?_; (with_reducible refine (yS.calls k t517 t518 t519 t520 _ _ t521 a1 a2 a3 t524 t527 _ ?side1 ?side2 A29.out).mono ?_); (case side1 => repeat (first | exact (Kd.R_reads' HO523.out).2.2 | (with_reducible refine Kd.C_alloc ?_ _) | (with_reducible refine Kd.C_drewN ?_ _) | (with_reducible refine Kd.C_drew ?_))); (case side2 => exact (Kd.R_reads' HO523.out).2.1); rintro e w62 ⟨v525, rfl, ho0, hb⟩; refine ⟨_, rfl, ?_⟩; have n0_ := zC.mk (Kd.R_elder' (by (with_reducible repeat (first | apply Kd.R_alloc | apply Kd.R_drewN | apply Kd.R_drew)); exact HO485.out) (Kd.R_base ho0) hb); have n1_ := zC.mk (Kd.R_elder' (by (with_reducible repeat (first | apply Kd.R_alloc | apply Kd.R_drewN | apply Kd.R_drew)); exact HO488.out) (Kd.R_base ho0) hb); have n2_ := zC.mk (Kd.R_elder' (by (with_reducible repeat (first | apply Kd.R_alloc | apply Kd.R_drewN | apply Kd.R_drew)); exact HO496.out) (Kd.R_base ho0) hb); have n3_ := zC.mk (Kd.R_elder' (by (with_reducible repeat (first | apply Kd.R_alloc | apply Kd.R_drewN | apply Kd.R_drew)); exact HO500.out) (Kd.R_base ho0) hb); have n4_ := zC.mk (Kd.R_elder' (by (with_reducible repeat (first | apply Kd.R_alloc | apply Kd.R_drewN | apply Kd.R_drew)); exact HO509.out) (Kd.R_base ho0) hb); have n5_ := zC.mk (Kd.R_elder' (by (with_reducible repeat (first | apply Kd.R_alloc | apply Kd.R_drewN | apply Kd.R_drew)); exact HO523.out) (Kd.R_base ho0) hb); have n6_ := zC.mk (Kd.R_lower (Kd.R_new' (Kd.R_new' (Kd.R_new' (Kd.R_new' (Kd.R_new' (Kd.R_new' ho0 (Kd.R_lt (by (with_reducible repeat (first | apply Kd.R_alloc | apply Kd.R_drewN | apply Kd.R_drew)); exact HO485.out))) (Kd.R_lt (by (with_reducible repeat (first | apply Kd.R_alloc | apply Kd.R_drewN | apply Kd.R_drew)); exact HO488.out))) (Kd.R_lt (by (with_reducible repeat (first | apply Kd.R_alloc | apply Kd.R_drewN | apply Kd.R_drew)); exact HO496.out))) (Kd.R_lt (by (with_reducible repeat (first | apply Kd.R_alloc | apply Kd.R_drewN | apply Kd.R_drew)); exact HO500.out))) (Kd.R_lt (by (with_reducible repeat (first | apply Kd.R_alloc | apply Kd.R_drewN | apply Kd.R_drew)); exact HO509.out))) (Kd.R_lt (by (with_reducible repeat (first | apply Kd.R_alloc | apply Kd.R_drewN | apply Kd.R_drew)); exact HO523.out))) (zM (by repeat (first | (with_reducible first | exact HB.out | apply zG | apply zA | apply zF | refine zH ?_ GE477.out | refine zH ?_ GE497.out) | exact HB.out)))); have n7_ := zC.mk (zK (g := gb477) (o := .cells #[.int .i64 a0_0, .int .i64 a0_1, .int .i64 a0_2, .int .i64 a0_3, .slice A0_4 l0_4.length c0_4] 26 (0, 0)) (by (with_reducible repeat (first | refine zE ?_ _ | refine zI ?_ | refine zD ?_ _)); exact BK477.out) hb); have n8_ := zC.mk (zK (g := gb497) (o := .cells #[.int .i64 t490, .int .i64 t491, .int .i64 t492, .int .i64 t493, .slice Ao48 t494.length co48] 32 (0, 0)) (by (with_reducible repeat (first | refine zE ?_ _ | refine zI ?_ | refine zD ?_ _)); exact BK497.out) hb); have n9_ := zC.mk (zL (by repeat (first | (with_reducible first | exact HB.out | apply zG | apply zA | apply zF | refine zH ?_ GE477.out | refine zH ?_ GE497.out) | exact HB.out)) hb); clear HO485; clear HO488; clear HO496; clear HO500; clear HO509; clear HO523; clear BK477; clear BK497; clear HB; have HO485 := n0_; have HO488 := n1_; have HO496 := n2_; have HO500 := n3_; have HO509 := n4_; have HO523 := n5_; have HO526 := n6_; have BK477 := n7_; have BK497 := n8_; have HB := n9_; clear n0_ n1_ n2_ n3_ n4_ n5_ n6_ n7_ n8_ n9_; (try clear hb); (try clear ho0); obtain ⟨Ao63, co63, eo63⟩ := Kd.R_slice HO526.out; subst eo63) | ((with_reducible refine zP (f := 19) rfl ?_); refine zX (some 96) rfl rfl Try.func19 (by kernel_rfl) rfl #[.slice Ao63 t524.length co63, .slice Ao51 t486.length co51] rfl (by (try simp only [List.map_toArray, List.map_cons, List.map_nil]); first | done | rfl) ?_; (with_reducible refine (yN.calls k _ _ t524 _ _ t486 true _ ?side1 ?side2 ?side3 ?side4 A30.out).mono ?_); (case side1 => repeat (first | exact (Kd.R_reads' HO526.out).2.2 | (with_reducible refine Kd.C_alloc ?_ _) | (with_reducible refine Kd.C_drewN ?_ _) | (with_reducible refine Kd.C_drew ?_))); (case side2 => exact (Kd.R_reads' HO526.out).2.1); (case side3 => repeat (first | exact (Kd.R_reads' HO488.out).2.2 | (with_reducible refine Kd.C_alloc ?_ _) | (with_reducible refine Kd.C_drewN ?_ _) | (with_reducible refine Kd.C_drew ?_))); (case side4 => exact (Kd.R_reads' HO488.out).2.1); rintro e w' ⟨rfl, ⟨nd, rfl⟩⟩; refine ⟨_, rfl, ?_⟩) | ((with_reducible refine zP (f := 22) rfl ?_); refine zX (some 105) rfl rfl Try.func22 (by kernel_rfl) rfl #[.slice Ao50 t515.length co50, .int .i64 1] rfl (by (try simp only [List.map_toArray, List.map_cons, List.map_nil]); first | done | (rw [show t515.length = t498.length from (Kd.R_reads' HO500.out).1.symm] <;> rfl) | rfl | (simp only [List.length_drop, List.length_take]; rfl)) ?_; (with_reducible refine (yL.calls k _ _ t515 1 t529 _ ?side1 ?side2 A33.out).mono ?_); (case side1 => repeat (first | exact (Kd.R_reads' HO500.out).2.2 | (with_reducible refine Kd.C_alloc ?_ _) | (with_reducible refine Kd.C_drewN ?_ _) | (with_reducible refine Kd.C_drew ?_))); (case side2 => rw [show t515.length = t498.length from (Kd.R_reads' HO500.out).1.symm]; exact (Kd.R_reads' HO500.out).2.1); rintro e w' ⟨rfl, ⟨nd, rfl⟩⟩; refine ⟨_, rfl, ?_⟩))
             go_ret
             exact ⟨by first | rfl | (simp [*, errW_none, errW_some] <;> rfl), by repeat (first | (with_reducible first | exact HB.out | apply zG | apply zA | apply zF | refine zH ?_ GE477.out | refine zH ?_ GE497.out) | exact HB.out)⟩
            ·
             rw [if_neg c35] at H
             exact absurd H (by simp)
          ·
           rw [if_neg c32] at H
           exact absurd H (by simp)
         ·
          replace c31 := Bool.eq_false_iff.mpr c31
          subst c31
          have H1 : (none) = some r := by rw [if_neg (show ¬ (false = true) by decide)] at H; exact H
          clear H
          have H := H1
          clear H1
          exact absurd H (by simp)
        ·
         rw [if_neg c27] at H
         exact absurd H (by simp)
      ·
       replace c23 := Bool.eq_false_iff.mpr c23
       subst c23
       have H1 : (none) = some r := by rw [if_neg (show ¬ (false = true) by decide)] at H; exact H
       clear H
       have H := H1
       clear H1
       exact absurd H (by simp)
    ·
     replace c19 := Bool.eq_false_iff.mpr c19
     subst c19
     have H1 : (none) = some r := by rw [if_neg (show ¬ (false = true) by decide)] at H; exact H
     clear H
     have H := H1
     clear H1
     exact absurd H (by simp)
   ·
    rw [if_neg c16] at H
    exact absurd H (by simp)
  ·
   replace c15 := Bool.eq_false_iff.mpr c15
   subst c15
   have H1 : (none) = some r := by rw [if_neg (show ¬ (false = true) by decide)] at H; exact H
   clear H
   have H := H1
   clear H1
   exact absurd H (by simp)
end Go.Proofs.Ytioendlbpendpaa.X
