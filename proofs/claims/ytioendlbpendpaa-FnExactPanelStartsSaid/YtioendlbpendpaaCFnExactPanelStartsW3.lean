/- Part of the proof of the law FnExactPanelStarts: each function of the code computes what its plain function says. No condition of its own. -/
import Derived.Test.YtioendlbpendpaaCFnExactPanelStartsW2
set_option maxHeartbeats 8000000
set_option maxRecDepth 100000
namespace Go.Proofs.Ytioendlbpendpaa.X
open Go.RowKit Go.Proofs.YtioendlbpendpaaW.PrintWords Go.Proofs.YtioendlbpendpaaW.PrintLast Go.Proofs.YtioendlbpendpaaW.PrintMore
attribute [local go_sem] max2_int min2_int max_two min_two max_three min_three max_four min_four   -- for this text's walks alone
set_option linter.unusedVariables false
set_option linter.unusedSimpArgs false
theorem wU.calls (a0_0 : Int) (a0_1 : Int) (a0_2 : Int) (a0_3 : Int) (a1_0 : Int) (a1_1 : Int) (r1 : Int) (r2 : Int) (w : World) (h : wU.f a0_0 a0_1 a0_2 a0_3 a1_0 a1_1 = some (r1, r2)) :
  Calls Try.prog 148 #[.agg #[.int .i64 a0_0, .int .i64 a0_1, .int .i64 a0_2, .int .i64 a0_3], .agg #[.int .i64 a1_0, .int .i64 a1_1]] w fun e w' => e = .returned (.agg #[.int .i64 r1, .int .i64 r2]) ∧ Below w.heap.size w w' := by
 have hu49 := Try.underlying49
 have hu50 := Try.underlying50
 have HB := zC.mk (Below.refl w.heap.size w)
 have H : (some (wrap64 ((wrap64 (a0_0 * a1_0)) + (wrap64 (a0_1 * a1_1))), wrap64 ((wrap64 (a0_2 * a1_0)) + (wrap64 (a0_3 * a1_1))))) = some (r1, r2) := h
 clear h
 simp only [Option.some.injEq, Prod.mk.injEq] at H
 obtain ⟨rfl, rfl⟩ := H
 go_enter Try.func148, Try.ntmps148
 go_wp2_with (first | ((with_reducible refine zQ (N := 2) rfl ?_); refine zO ?hg (N := 2) ?hd (cs := #[.int .i64 a0_0, .int .i64 a0_1, .int .i64 a0_2, .int .i64 a0_3]) (t := 49) ?hr ?_; (case hd => rfl); (case hg => rfl); (case hr => first | (go_simp; done) | (go_simp; rfl)); intro gb293 hg w3 hbox hb; have n0_ := zC.mk (zL (by repeat (first | (with_reducible first | exact HB.out | apply zG | apply zA | apply zF) | exact HB.out)) hb); have n1_ := zC.mk (hbox); have n2_ := zC.mk ((by rw [hg]; exact (zM (by repeat (first | (with_reducible first | exact HB.out | apply zG | apply zA | apply zF) | exact HB.out))) : w.heap.size ≤ gb293)); have n3_ := n2_; clear HB; have HB := n0_; have BK293 := n1_; have GW293 := n2_; have GE293 := n3_; clear n0_ n1_ n2_ n3_; clear hb hbox hg) | ((with_reducible refine zQ (N := 3) rfl ?_); refine zO ?hg (N := 3) ?hd (cs := #[.int .i64 a1_0, .int .i64 a1_1]) (t := 50) ?hr ?_; (case hd => rfl); (case hg => rfl); (case hr => first | (go_simp; done) | (go_simp; rfl)); intro gb294 hg w4 hbox hb; have n0_ := zC.mk (zK (g := gb293) (o := .cells #[.int .i64 a0_0, .int .i64 a0_1, .int .i64 a0_2, .int .i64 a0_3] 49 (0, 0)) (by (with_reducible repeat (first | refine zE ?_ _ | refine zI ?_ | refine zD ?_ _)); exact BK293.out) hb); have n1_ := zC.mk (zL (by repeat (first | (with_reducible first | exact HB.out | apply zG | apply zA | apply zF | refine zH ?_ GE293.out) | exact HB.out)) hb); have n2_ := zC.mk (hbox); have n3_ := zC.mk ((by rw [hg]; exact (zM (by repeat (first | (with_reducible first | exact HB.out | apply zG | apply zA | apply zF | refine zH ?_ GE293.out) | exact HB.out))) : w.heap.size ≤ gb294)); have n4_ := n3_; have n5_ := zC.mk ((by rw [hg]; exact Nat.ne_of_lt (zV (by (with_reducible repeat (first | refine zE ?_ _ | refine zI ?_ | refine zD ?_ _)); exact BK293.out)) : gb293 ≠ gb294)); have n6_ := zC.mk n5_.out.symm; clear BK293; clear HB; have BK293 := n0_; have HB := n1_; have BK294 := n2_; have GW294 := n3_; have GE294 := n4_; have NB293_294 := n5_; have NB294_293 := n6_; clear n0_ n1_ n2_ n3_ n4_ n5_ n6_; clear hb hbox hg) | ((with_reducible refine zQ (N := 4) rfl ?_); refine zO ?hg (N := 4) ?hd (cs := #[.int .i64 0, .int .i64 0]) (t := 50) ?hr ?_; (case hd => rfl); (case hg => rfl); (case hr => first | (go_simp; done) | (go_simp; rfl)); intro gb295 hg w5 hbox hb; have n0_ := zC.mk (zK (g := gb293) (o := .cells #[.int .i64 a0_0, .int .i64 a0_1, .int .i64 a0_2, .int .i64 a0_3] 49 (0, 0)) (by (with_reducible repeat (first | refine zE ?_ _ | refine zI ?_ | refine zD ?_ _)); exact BK293.out) hb); have n1_ := zC.mk (zK (g := gb294) (o := .cells #[.int .i64 a1_0, .int .i64 a1_1] 50 (0, 0)) (by (with_reducible repeat (first | refine zE ?_ _ | refine zI ?_ | refine zD ?_ _)); exact BK294.out) hb); have n2_ := zC.mk (zL (by repeat (first | (with_reducible first | exact HB.out | apply zG | apply zA | apply zF | refine zH ?_ GE293.out | refine zH ?_ GE294.out) | exact HB.out)) hb); have n3_ := zC.mk (hbox); have n4_ := zC.mk ((by rw [hg]; exact (zM (by repeat (first | (with_reducible first | exact HB.out | apply zG | apply zA | apply zF | refine zH ?_ GE293.out | refine zH ?_ GE294.out) | exact HB.out))) : w.heap.size ≤ gb295)); have n5_ := n4_; have n6_ := zC.mk ((by rw [hg]; exact Nat.ne_of_lt (zV (by (with_reducible repeat (first | refine zE ?_ _ | refine zI ?_ | refine zD ?_ _)); exact BK293.out)) : gb293 ≠ gb295)); have n7_ := zC.mk n6_.out.symm; have n8_ := zC.mk ((by rw [hg]; exact Nat.ne_of_lt (zV (by (with_reducible repeat (first | refine zE ?_ _ | refine zI ?_ | refine zD ?_ _)); exact BK294.out)) : gb294 ≠ gb295)); have n9_ := zC.mk n8_.out.symm; clear BK293; clear BK294; clear HB; have BK293 := n0_; have BK294 := n1_; have HB := n2_; have BK295 := n3_; have GW295 := n4_; have GE295 := n5_; have NB293_295 := n6_; have NB295_293 := n7_; have NB294_295 := n8_; have NB295_294 := n9_; clear n0_ n1_ n2_ n3_ n4_ n5_ n6_ n7_ n8_ n9_; clear hb hbox hg; have hnb6 := NB293_294.out; have hnc6 := NB294_293.out; have hnb7 := NB293_295.out; have hnc7 := NB295_293.out; have hcz8_0 : w5.cell? ⟨gb293, 0, none⟩ = some (.int .i64 a0_0) := zB BK293.out 0; have hcz8_1 : w5.cell? ⟨gb293, 1, none⟩ = some (.int .i64 a0_1) := zB BK293.out 1; have hcz8_2 : w5.cell? ⟨gb293, 2, none⟩ = some (.int .i64 a0_2) := zB BK293.out 2; have hcz8_3 : w5.cell? ⟨gb293, 3, none⟩ = some (.int .i64 a0_3) := zB BK293.out 3; have hfz8_0 := zJ BK293.out 0; have hfz8_1 := zJ BK293.out 1; have hfz8_2 := zJ BK293.out 2; have hfz8_3 := zJ BK293.out 3; have hnb9 := NB294_295.out; have hnc9 := NB295_294.out; have hcz10_0 : w5.cell? ⟨gb294, 0, none⟩ = some (.int .i64 a1_0) := zB BK294.out 0; have hcz10_1 : w5.cell? ⟨gb294, 1, none⟩ = some (.int .i64 a1_1) := zB BK294.out 1; have hfz10_0 := zJ BK294.out 0; have hfz10_1 := zJ BK294.out 1; have hcz11_0 : w5.cell? ⟨gb295, 0, none⟩ = some (.int .i64 0) := zB BK295.out 0; have hcz11_1 : w5.cell? ⟨gb295, 1, none⟩ = some (.int .i64 0) := zB BK295.out 1; have hfz11_0 := zJ BK295.out 0; have hfz11_1 := zJ BK295.out 1))
 refine bodyPost_ret (results_cell_row rfl _ _ gb295 50 #[.int .i64 (wrap64 ((wrap64 (a0_0 * a1_0)) + (wrap64 (a0_1 * a1_1)))), .int .i64 (wrap64 ((wrap64 (a0_2 * a1_0)) + (wrap64 (a0_3 * a1_1))))] (0, 0) _ rfl (by (with_reducible repeat (first | refine zE ?_ _ | refine zI ?_ | refine zD ?_ _)); refine zS (cs := #[.int .i64 (wrap64 ((wrap64 (a0_0 * a1_0)) + (wrap64 (a0_1 * a1_1)))), .int .i64 0]) ?_ 1 _ rfl; (with_reducible repeat (first | refine zE ?_ _ | refine zI ?_ | refine zD ?_ _)); refine zS (cs := #[.int .i64 0, .int .i64 0]) ?_ 0 _ rfl; (with_reducible repeat (first | refine zE ?_ _ | refine zI ?_ | refine zD ?_ _)); exact BK295.out) Try.underlying50 rfl (by kernel_rfl)) rfl ?_
 exact ⟨by first | rfl | (simp [*, errW_none, errW_some] <;> rfl), by repeat (first | (with_reducible first | exact HB.out | apply zG | apply zA | apply zF | refine zH ?_ GE293.out | refine zH ?_ GE294.out | refine zH ?_ GE295.out) | exact HB.out)⟩
theorem xX.calls (a0_0 : Int) (a0_1 : Int) (a1_0 : Int) (a1_1 : Int) (r1 : Int) (r2 : Int) (w : World) (h : xX.f a0_0 a0_1 a1_0 a1_1 = some (r1, r2)) :
  Calls Try.prog 149 #[.agg #[.int .i64 a0_0, .int .i64 a0_1], .agg #[.int .i64 a1_0, .int .i64 a1_1]] w fun e w' => e = .returned (.agg #[.int .i64 r1, .int .i64 r2]) ∧ Below w.heap.size w w' := by
 have hu50 := Try.underlying50
 have HB := zC.mk (Below.refl w.heap.size w)
 have H : (some (wrap64 (a0_0 + a1_0), wrap64 (a0_1 + a1_1))) = some (r1, r2) := h
 clear h
 simp only [Option.some.injEq, Prod.mk.injEq] at H
 obtain ⟨rfl, rfl⟩ := H
 go_enter Try.func149, Try.ntmps149
 go_wp2_with (first | ((with_reducible refine zQ (N := 2) rfl ?_); refine zO ?hg (N := 2) ?hd (cs := #[.int .i64 a0_0, .int .i64 a0_1]) (t := 50) ?hr ?_; (case hd => rfl); (case hg => rfl); (case hr => first | (go_simp; done) | (go_simp; rfl)); intro gb296 hg w3 hbox hb; have n0_ := zC.mk (zL (by repeat (first | (with_reducible first | exact HB.out | apply zG | apply zA | apply zF) | exact HB.out)) hb); have n1_ := zC.mk (hbox); have n2_ := zC.mk ((by rw [hg]; exact (zM (by repeat (first | (with_reducible first | exact HB.out | apply zG | apply zA | apply zF) | exact HB.out))) : w.heap.size ≤ gb296)); have n3_ := n2_; clear HB; have HB := n0_; have BK296 := n1_; have GW296 := n2_; have GE296 := n3_; clear n0_ n1_ n2_ n3_; clear hb hbox hg) | ((with_reducible refine zQ (N := 3) rfl ?_); refine zO ?hg (N := 3) ?hd (cs := #[.int .i64 a1_0, .int .i64 a1_1]) (t := 50) ?hr ?_; (case hd => rfl); (case hg => rfl); (case hr => first | (go_simp; done) | (go_simp; rfl)); intro gb297 hg w4 hbox hb; have n0_ := zC.mk (zK (g := gb296) (o := .cells #[.int .i64 a0_0, .int .i64 a0_1] 50 (0, 0)) (by (with_reducible repeat (first | refine zE ?_ _ | refine zI ?_ | refine zD ?_ _)); exact BK296.out) hb); have n1_ := zC.mk (zL (by repeat (first | (with_reducible first | exact HB.out | apply zG | apply zA | apply zF | refine zH ?_ GE296.out) | exact HB.out)) hb); have n2_ := zC.mk (hbox); have n3_ := zC.mk ((by rw [hg]; exact (zM (by repeat (first | (with_reducible first | exact HB.out | apply zG | apply zA | apply zF | refine zH ?_ GE296.out) | exact HB.out))) : w.heap.size ≤ gb297)); have n4_ := n3_; have n5_ := zC.mk ((by rw [hg]; exact Nat.ne_of_lt (zV (by (with_reducible repeat (first | refine zE ?_ _ | refine zI ?_ | refine zD ?_ _)); exact BK296.out)) : gb296 ≠ gb297)); have n6_ := zC.mk n5_.out.symm; clear BK296; clear HB; have BK296 := n0_; have HB := n1_; have BK297 := n2_; have GW297 := n3_; have GE297 := n4_; have NB296_297 := n5_; have NB297_296 := n6_; clear n0_ n1_ n2_ n3_ n4_ n5_ n6_; clear hb hbox hg) | ((with_reducible refine zQ (N := 4) rfl ?_); refine zO ?hg (N := 4) ?hd (cs := #[.int .i64 0, .int .i64 0]) (t := 50) ?hr ?_; (case hd => rfl); (case hg => rfl); (case hr => first | (go_simp; done) | (go_simp; rfl)); intro gb298 hg w5 hbox hb; have n0_ := zC.mk (zK (g := gb296) (o := .cells #[.int .i64 a0_0, .int .i64 a0_1] 50 (0, 0)) (by (with_reducible repeat (first | refine zE ?_ _ | refine zI ?_ | refine zD ?_ _)); exact BK296.out) hb); have n1_ := zC.mk (zK (g := gb297) (o := .cells #[.int .i64 a1_0, .int .i64 a1_1] 50 (0, 0)) (by (with_reducible repeat (first | refine zE ?_ _ | refine zI ?_ | refine zD ?_ _)); exact BK297.out) hb); have n2_ := zC.mk (zL (by repeat (first | (with_reducible first | exact HB.out | apply zG | apply zA | apply zF | refine zH ?_ GE296.out | refine zH ?_ GE297.out) | exact HB.out)) hb); have n3_ := zC.mk (hbox); have n4_ := zC.mk ((by rw [hg]; exact (zM (by repeat (first | (with_reducible first | exact HB.out | apply zG | apply zA | apply zF | refine zH ?_ GE296.out | refine zH ?_ GE297.out) | exact HB.out))) : w.heap.size ≤ gb298)); have n5_ := n4_; have n6_ := zC.mk ((by rw [hg]; exact Nat.ne_of_lt (zV (by (with_reducible repeat (first | refine zE ?_ _ | refine zI ?_ | refine zD ?_ _)); exact BK296.out)) : gb296 ≠ gb298)); have n7_ := zC.mk n6_.out.symm; have n8_ := zC.mk ((by rw [hg]; exact Nat.ne_of_lt (zV (by (with_reducible repeat (first | refine zE ?_ _ | refine zI ?_ | refine zD ?_ _)); exact BK297.out)) : gb297 ≠ gb298)); have n9_ := zC.mk n8_.out.symm; clear BK296; clear BK297; clear HB; have BK296 := n0_; have BK297 := n1_; have HB := n2_; have BK298 := n3_; have GW298 := n4_; have GE298 := n5_; have NB296_298 := n6_; have NB298_296 := n7_; have NB297_298 := n8_; have NB298_297 := n9_; clear n0_ n1_ n2_ n3_ n4_ n5_ n6_ n7_ n8_ n9_; clear hb hbox hg; have hnb6 := NB296_297.out; have hnc6 := NB297_296.out; have hnb7 := NB296_298.out; have hnc7 := NB298_296.out; have hcz8_0 : w5.cell? ⟨gb296, 0, none⟩ = some (.int .i64 a0_0) := zB BK296.out 0; have hcz8_1 : w5.cell? ⟨gb296, 1, none⟩ = some (.int .i64 a0_1) := zB BK296.out 1; have hfz8_0 := zJ BK296.out 0; have hfz8_1 := zJ BK296.out 1; have hnb9 := NB297_298.out; have hnc9 := NB298_297.out; have hcz10_0 : w5.cell? ⟨gb297, 0, none⟩ = some (.int .i64 a1_0) := zB BK297.out 0; have hcz10_1 : w5.cell? ⟨gb297, 1, none⟩ = some (.int .i64 a1_1) := zB BK297.out 1; have hfz10_0 := zJ BK297.out 0; have hfz10_1 := zJ BK297.out 1; have hcz11_0 : w5.cell? ⟨gb298, 0, none⟩ = some (.int .i64 0) := zB BK298.out 0; have hcz11_1 : w5.cell? ⟨gb298, 1, none⟩ = some (.int .i64 0) := zB BK298.out 1; have hfz11_0 := zJ BK298.out 0; have hfz11_1 := zJ BK298.out 1))
 refine bodyPost_ret (results_cell_row rfl _ _ gb298 50 #[.int .i64 (wrap64 (a0_0 + a1_0)), .int .i64 (wrap64 (a0_1 + a1_1))] (0, 0) _ rfl (by (with_reducible repeat (first | refine zE ?_ _ | refine zI ?_ | refine zD ?_ _)); refine zS (cs := #[.int .i64 (wrap64 (a0_0 + a1_0)), .int .i64 0]) ?_ 1 _ rfl; (with_reducible repeat (first | refine zE ?_ _ | refine zI ?_ | refine zD ?_ _)); refine zS (cs := #[.int .i64 0, .int .i64 0]) ?_ 0 _ rfl; (with_reducible repeat (first | refine zE ?_ _ | refine zI ?_ | refine zD ?_ _)); exact BK298.out) Try.underlying50 rfl (by kernel_rfl)) rfl ?_
 exact ⟨by first | rfl | (simp [*, errW_none, errW_some] <;> rfl), by repeat (first | (with_reducible first | exact HB.out | apply zG | apply zA | apply zF | refine zH ?_ GE296.out | refine zH ?_ GE297.out | refine zH ?_ GE298.out) | exact HB.out)⟩
def xS.T1 : Bool × List (List Nat × List Nat) := (true, [([], []), ([0], [0]), ([], []), ([1, 2], [1, 2]), ([], []), ([4], [4]), ([3, 5, 3], [3, 5]), ([6, 6, 0, 1, 2, 3, 4, 5, 6], [6])])
def xS.B1 : List Nat := [0, 1, 0, 7, 0, 16, 63, 127]
theorem xS.tab1 : rtab .any (opsOf Try.f111 1) = xS.T1 := by kernel_rfl
theorem xS.bits1 : waitsOk xS.T1.2 xS.B1 = true := by kernel_rfl
theorem xS.calls (a0_0 : Int) (a0_1 : Int) (a0_2 : Int) (a0_3 : Int) (a0_4 : Int) (a0_5 : Int) (a1_0 : Int) (a1_1 : Int) (r1 : Int) (r2 : Int) (w : World) (h : xS.f a0_0 a0_1 a0_2 a0_3 a0_4 a0_5 a1_0 a1_1 = some (r1, r2)) :
  Calls Try.prog 111 #[.agg #[.int .i64 a0_0, .int .i64 a0_1, .int .i64 a0_2, .int .i64 a0_3, .int .i64 a0_4, .int .i64 a0_5], .agg #[.int .i64 a1_0, .int .i64 a1_1]] w fun e w' => e = .returned (.agg #[.int .i64 r1, .int .i64 r2]) ∧ Below w.heap.size w w' := by
 have hu52 := Try.underlying52
 have hu50 := Try.underlying50
 have hu49 := Try.underlying49
 have HB := zC.mk (Below.refl w.heap.size w)
 have H : ((wU.f a0_0 a0_1 a0_2 a0_3 a1_0 a1_1).bind fun bt302 => ((xX.f bt302.1 bt302.2 a0_4 a0_5).bind fun bt304 => (some (bt304.1, bt304.2)))) = some (r1, r2) := h
 clear h
 replace H := Option.bind_eq_some_iff.mp H
 obtain ⟨⟨t302, t303⟩, A30, H⟩ := H
 replace H : ((xX.f t302 t303 a0_4 a0_5).bind fun bt304 => (some (bt304.1, bt304.2))) = some (r1, r2) := H
 have A3 := zC.mk A30
 clear A30
 replace H := Option.bind_eq_some_iff.mp H
 obtain ⟨⟨t304, t305⟩, A40, H⟩ := H
 replace H : (some (t304, t305)) = some (r1, r2) := H
 have A4 := zC.mk A40
 clear A40
 simp only [Option.some.injEq, Prod.mk.injEq] at H
 obtain ⟨rfl, rfl⟩ := H
 go_enter Try.func111, Try.ntmps111
 try go_wp2_with (first | ((with_reducible refine zQ (N := 2) rfl ?_); refine zO ?hg (N := 2) ?hd (cs := #[.int .i64 a0_0, .int .i64 a0_1, .int .i64 a0_2, .int .i64 a0_3, .int .i64 a0_4, .int .i64 a0_5]) (t := 52) ?hr ?_; (case hd => rfl); (case hg => rfl); (case hr => first | (go_simp; done) | (go_simp; rfl)); intro gb299 hg w5 hbox hb; have n0_ := zC.mk (zL (by repeat (first | (with_reducible first | exact HB.out | apply zG | apply zA | apply zF) | exact HB.out)) hb); have n1_ := zC.mk (hbox); have n2_ := zC.mk ((by rw [hg]; exact (zM (by repeat (first | (with_reducible first | exact HB.out | apply zG | apply zA | apply zF) | exact HB.out))) : w.heap.size ≤ gb299)); have n3_ := n2_; clear HB; have HB := n0_; have BK299 := n1_; have GW299 := n2_; have GE299 := n3_; clear n0_ n1_ n2_ n3_; clear hb hbox hg) | ((with_reducible refine zQ (N := 3) rfl ?_); refine zO ?hg (N := 3) ?hd (cs := #[.int .i64 a1_0, .int .i64 a1_1]) (t := 50) ?hr ?_; (case hd => rfl); (case hg => rfl); (case hr => first | (go_simp; done) | (go_simp; rfl)); intro gb300 hg w6 hbox hb; have n0_ := zC.mk (zK (g := gb299) (o := .cells #[.int .i64 a0_0, .int .i64 a0_1, .int .i64 a0_2, .int .i64 a0_3, .int .i64 a0_4, .int .i64 a0_5] 52 (0, 0)) (by (with_reducible repeat (first | refine zE ?_ _ | refine zI ?_ | refine zD ?_ _)); exact BK299.out) hb); have n1_ := zC.mk (zL (by repeat (first | (with_reducible first | exact HB.out | apply zG | apply zA | apply zF | refine zH ?_ GE299.out) | exact HB.out)) hb); have n2_ := zC.mk (hbox); have n3_ := zC.mk ((by rw [hg]; exact (zM (by repeat (first | (with_reducible first | exact HB.out | apply zG | apply zA | apply zF | refine zH ?_ GE299.out) | exact HB.out))) : w.heap.size ≤ gb300)); have n4_ := n3_; have n5_ := zC.mk ((by rw [hg]; exact Nat.ne_of_lt (zV (by (with_reducible repeat (first | refine zE ?_ _ | refine zI ?_ | refine zD ?_ _)); exact BK299.out)) : gb299 ≠ gb300)); have n6_ := zC.mk n5_.out.symm; clear BK299; clear HB; have BK299 := n0_; have HB := n1_; have BK300 := n2_; have GW300 := n3_; have GE300 := n4_; have NB299_300 := n5_; have NB300_299 := n6_; clear n0_ n1_ n2_ n3_ n4_ n5_ n6_; clear hb hbox hg) | ((with_reducible refine zQ (N := 4) rfl ?_); refine zO ?hg (N := 4) ?hd (cs := #[.int .i64 0, .int .i64 0]) (t := 50) ?hr ?_; (case hd => rfl); (case hg => rfl); (case hr => first | (go_simp; done) | (go_simp; rfl)); intro gb301 hg w7 hbox hb; have n0_ := zC.mk (zK (g := gb299) (o := .cells #[.int .i64 a0_0, .int .i64 a0_1, .int .i64 a0_2, .int .i64 a0_3, .int .i64 a0_4, .int .i64 a0_5] 52 (0, 0)) (by (with_reducible repeat (first | refine zE ?_ _ | refine zI ?_ | refine zD ?_ _)); exact BK299.out) hb); have n1_ := zC.mk (zK (g := gb300) (o := .cells #[.int .i64 a1_0, .int .i64 a1_1] 50 (0, 0)) (by (with_reducible repeat (first | refine zE ?_ _ | refine zI ?_ | refine zD ?_ _)); exact BK300.out) hb); have n2_ := zC.mk (zL (by repeat (first | (with_reducible first | exact HB.out | apply zG | apply zA | apply zF | refine zH ?_ GE299.out | refine zH ?_ GE300.out) | exact HB.out)) hb); have n3_ := zC.mk (hbox); have n4_ := zC.mk ((by rw [hg]; exact (zM (by repeat (first | (with_reducible first | exact HB.out | apply zG | apply zA | apply zF | refine zH ?_ GE299.out | refine zH ?_ GE300.out) | exact HB.out))) : w.heap.size ≤ gb301)); have n5_ := n4_; have n6_ := zC.mk ((by rw [hg]; exact Nat.ne_of_lt (zV (by (with_reducible repeat (first | refine zE ?_ _ | refine zI ?_ | refine zD ?_ _)); exact BK299.out)) : gb299 ≠ gb301)); have n7_ := zC.mk n6_.out.symm; have n8_ := zC.mk ((by rw [hg]; exact Nat.ne_of_lt (zV (by (with_reducible repeat (first | refine zE ?_ _ | refine zI ?_ | refine zD ?_ _)); exact BK300.out)) : gb300 ≠ gb301)); have n9_ := zC.mk n8_.out.symm; clear BK299; clear BK300; clear HB; have BK299 := n0_; have BK300 := n1_; have HB := n2_; have BK301 := n3_; have GW301 := n4_; have GE301 := n5_; have NB299_301 := n6_; have NB301_299 := n7_; have NB300_301 := n8_; have NB301_300 := n9_; clear n0_ n1_ n2_ n3_ n4_ n5_ n6_ n7_ n8_ n9_; clear hb hbox hg))
 have n0_ := zC.mk (zI BK299.out)
 have n1_ := zC.mk (zI BK300.out)
 have n2_ := zC.mk (zI BK301.out)
 have n3_ := zC.mk (zF HB.out)
 clear BK299
 clear BK300
 clear BK301
 clear HB
 have BK299 := n0_
 have BK300 := n1_
 have BK301 := n2_
 have HB := n3_
 clear n0_ n1_ n2_ n3_
 refine start_ (n := 8) (S := fun w' => w'.cell? ⟨gb299, 0, none⟩ = some (.int .i64 a0_0) ∧ w'.cell? ⟨gb299, 1, none⟩ = some (.int .i64 a0_1) ∧ w'.cell? ⟨gb299, 2, none⟩ = some (.int .i64 a0_2) ∧ w'.cell? ⟨gb299, 3, none⟩ = some (.int .i64 a0_3) ∧ w'.cell? ⟨gb299, 4, none⟩ = some (.int .i64 a0_4) ∧ w'.cell? ⟨gb299, 5, none⟩ = some (.int .i64 a0_5) ∧ w'.cell? ⟨gb300, 0, none⟩ = some (.int .i64 a1_0) ∧ w'.cell? ⟨gb300, 1, none⟩ = some (.int .i64 a1_1)) (ds := []) #[false, false, false, false, false, false, false, false] (by kernel_rfl) rfl rfl ⟨zB BK299.out 0, zB BK299.out 1, zB BK299.out 2, zB BK299.out 3, zB BK299.out 4, zB BK299.out 5, zB BK300.out 0, zB BK300.out 1⟩ (fun hHeld => ?_); refine yE xS.tab1 xS.bits1 (fun HT_ HW_ => ?_)
 generalize w7.drew = w8 at BK299 BK300 BK301 HB hHeld ⊢
 refine zR (i := 0) (N := some 5) (v := ?_) (a' := ?_) #[true, false, false, false, false, false, false, false] rfl rfl (zN HT_.out (by kernel_rfl)) (fun _ _ _ h => h) (Or.inl ⟨by rfl, ?_⟩) ?_ ?_
 rotate_left
 ·
  intro w'
  go_simp
  with_reducible rfl
 rotate_left
 ·
  go_simp
  rfl
 refine zR (i := 4) (N := some 9) (v := ?_) (a' := ?_) #[true, false, false, false, true, false, false, false] rfl rfl (zN HT_.out (by kernel_rfl)) (fun _ _ _ h => h) (Or.inl ⟨by rfl, ?_⟩) ?_ ?_
 rotate_left
 ·
  intro w'
  go_simp
  with_reducible rfl
 rotate_left
 ·
  go_simp
  rfl
 refine yC (i := 1) (N := some 6) (v := ?_) (a' := ?_) #[true, true, false, false, true, false, false, false] rfl rfl (zW HT_.out HW_.out (by kernel_rfl)) (fun _ _ _ h => h) (Or.inl ⟨by rfl, ?_⟩) hHeld ?_ ?_
 rotate_left
 ·
  rintro w' ⟨s0, s1, s2, s3, s4, s5, s6, s7⟩
  go_simp
  with_reducible rfl
 rotate_left
 ·
  go_simp
  rfl
 refine yC (i := 2) (N := some 7) (v := ?_) (a' := ?_) #[true, true, true, false, true, false, false, false] rfl rfl (zW HT_.out HW_.out (by kernel_rfl)) (fun _ _ _ h => h) (Or.inl ⟨by rfl, ?_⟩) hHeld ?_ ?_
 rotate_left
 ·
  rintro w' ⟨s0, s1, s2, s3, s4, s5, s6, s7⟩
  go_simp
  with_reducible rfl
 rotate_left
 ·
  go_simp
  rfl
 refine yC (i := 5) (N := some 10) (v := ?_) (a' := ?_) #[true, true, true, false, true, true, false, false] rfl rfl (zW HT_.out HW_.out (by kernel_rfl)) (fun _ _ _ h => h) (Or.inl ⟨by rfl, ?_⟩) hHeld ?_ ?_
 rotate_left
 ·
  rintro w' ⟨s0, s1, s2, s3, s4, s5, s6, s7⟩
  go_simp
  with_reducible rfl
 rotate_left
 ·
  go_simp
  rfl
 refine one_ (i := 3) (N := some 8) #[true, true, true, true, true, true, false, false] rfl rfl (yB HT_.out (by kernel_rfl)) (by decide) (fun K hK => ?_)
 refine yD Try.func148 (by kernel_rfl) rfl #[.agg #[.int .i64 a0_0, .int .i64 a0_1, .int .i64 a0_2, .int .i64 a0_3], .agg #[.int .i64 a1_0, .int .i64 a1_1]] (by rfl) rfl rfl (by (try simp only [List.map_toArray, List.map_cons, List.map_nil]); first | done | rfl) ?_
 with_reducible refine (wU.calls a0_0 a0_1 a0_2 a0_3 a1_0 a1_1 t302 t303 _ A3.out).mono ?_
 rintro e w9 ⟨rfl, hb⟩
 refine ⟨_, rfl, ?_⟩
 have n0_ := zC.mk (zK (g := gb299) (o := .cells #[.int .i64 a0_0, .int .i64 a0_1, .int .i64 a0_2, .int .i64 a0_3, .int .i64 a0_4, .int .i64 a0_5] 52 (0, 0)) (by (with_reducible repeat (first | refine zE ?_ _ | refine zI ?_ | refine zD ?_ _)); exact BK299.out) hb)
 have n1_ := zC.mk (zK (g := gb300) (o := .cells #[.int .i64 a1_0, .int .i64 a1_1] 50 (0, 0)) (by (with_reducible repeat (first | refine zE ?_ _ | refine zI ?_ | refine zD ?_ _)); exact BK300.out) hb)
 have n2_ := zC.mk (zK (g := gb301) (o := .cells #[.int .i64 0, .int .i64 0] 50 (0, 0)) (by (with_reducible repeat (first | refine zE ?_ _ | refine zI ?_ | refine zD ?_ _)); exact BK301.out) hb)
 have n3_ := zC.mk (zL (by repeat (first | (with_reducible first | exact HB.out | apply zG | apply zA | apply zF | refine zH ?_ GE299.out | refine zH ?_ GE300.out | refine zH ?_ GE301.out) | exact HB.out)) hb)
 clear BK299
 clear BK300
 clear BK301
 clear HB
 have BK299 := n0_
 have BK300 := n1_
 have BK301 := n2_
 have HB := n3_
 clear n0_ n1_ n2_ n3_
 (try clear hb)
 refine hK.out _ _ ⟨zB BK299.out 0, zB BK299.out 1, zB BK299.out 2, zB BK299.out 3, zB BK299.out 4, zB BK299.out 5, zB BK300.out 0, zB BK300.out 1⟩ (fun hHeld => ?_)
 clear hK K
 refine yA (a' := ?_) ?_ ?_
 rotate_left
 ·
  show Act.put _ (some 8) _ = _
  go_simp
  rfl
 refine one_ (i := 6) (N := some 11) #[true, true, true, true, true, true, true, false] rfl rfl (yB HT_.out (by kernel_rfl)) (by decide) (fun K hK => ?_)
 refine yD Try.func149 (by kernel_rfl) rfl #[.agg #[.int .i64 t302, .int .i64 t303], .agg #[.int .i64 a0_4, .int .i64 a0_5]] (by rfl) rfl rfl (by (try simp only [List.map_toArray, List.map_cons, List.map_nil]); first | done | rfl) ?_
 with_reducible refine (xX.calls t302 t303 a0_4 a0_5 t304 t305 _ A4.out).mono ?_
 rintro e w10 ⟨rfl, hb⟩
 refine ⟨_, rfl, ?_⟩
 have n0_ := zC.mk (zK (g := gb299) (o := .cells #[.int .i64 a0_0, .int .i64 a0_1, .int .i64 a0_2, .int .i64 a0_3, .int .i64 a0_4, .int .i64 a0_5] 52 (0, 0)) (by (with_reducible repeat (first | refine zE ?_ _ | refine zI ?_ | refine zD ?_ _)); exact BK299.out) hb)
 have n1_ := zC.mk (zK (g := gb300) (o := .cells #[.int .i64 a1_0, .int .i64 a1_1] 50 (0, 0)) (by (with_reducible repeat (first | refine zE ?_ _ | refine zI ?_ | refine zD ?_ _)); exact BK300.out) hb)
 have n2_ := zC.mk (zK (g := gb301) (o := .cells #[.int .i64 0, .int .i64 0] 50 (0, 0)) (by (with_reducible repeat (first | refine zE ?_ _ | refine zI ?_ | refine zD ?_ _)); exact BK301.out) hb)
 have n3_ := zC.mk (zL (by repeat (first | (with_reducible first | exact HB.out | apply zG | apply zA | apply zF | refine zH ?_ GE299.out | refine zH ?_ GE300.out | refine zH ?_ GE301.out) | exact HB.out)) hb)
 clear BK299
 clear BK300
 clear BK301
 clear HB
 have BK299 := n0_
 have BK300 := n1_
 have BK301 := n2_
 have HB := n3_
 clear n0_ n1_ n2_ n3_
 (try clear hb)
 refine hK.out _ _ ⟨zB BK299.out 0, zB BK299.out 1, zB BK299.out 2, zB BK299.out 3, zB BK299.out 4, zB BK299.out 5, zB BK300.out 0, zB BK300.out 1⟩ (fun hHeld => ?_)
 clear hK K
 refine yA (a' := ?_) ?_ ?_
 rotate_left
 ·
  show Act.put _ (some 11) _ = _
  go_simp
  rfl
 refine one_ (i := 7) (N := none) #[true, true, true, true, true, true, true, true] rfl rfl (yB HT_.out (by kernel_rfl)) (by decide) (fun K hK => ?_)
 have hs11 : w10.cell? ⟨gb301, 0, none⟩ = some (.int .i64 0) := zB BK301.out 0
 have hfs11 := zJ BK301.out 0
 have hns11_0 := NB299_301.out
 have hns11_1 := NB300_301.out
 have hms11_0 := NB301_299.out
 have hms11_1 := NB301_300.out
 have hs12 : w10.cell? ⟨gb301, 1, none⟩ = some (.int .i64 0) := zB BK301.out 1
 have hfs12 := zJ BK301.out 1
 have hns12_0 := NB299_301.out
 have hns12_1 := NB300_301.out
 have hms12_0 := NB301_299.out
 have hms12_1 := NB301_300.out
 refine skip_ (w1 := ?_) (by rfl) rfl ?_ ?_
 rotate_left
 ·
  go_simp
  rfl
 refine hK.out _ _ ⟨((zT (p := ⟨gb301, _, none⟩) NB299_301.out _).trans (((zT (p := ⟨gb301, _, none⟩) NB299_301.out _).trans (hHeld.1)))), ((zT (p := ⟨gb301, _, none⟩) NB299_301.out _).trans (((zT (p := ⟨gb301, _, none⟩) NB299_301.out _).trans (hHeld.2.1)))), ((zT (p := ⟨gb301, _, none⟩) NB299_301.out _).trans (((zT (p := ⟨gb301, _, none⟩) NB299_301.out _).trans (hHeld.2.2.1)))), ((zT (p := ⟨gb301, _, none⟩) NB299_301.out _).trans (((zT (p := ⟨gb301, _, none⟩) NB299_301.out _).trans (hHeld.2.2.2.1)))), ((zT (p := ⟨gb301, _, none⟩) NB299_301.out _).trans (((zT (p := ⟨gb301, _, none⟩) NB299_301.out _).trans (hHeld.2.2.2.2.1)))), ((zT (p := ⟨gb301, _, none⟩) NB299_301.out _).trans (((zT (p := ⟨gb301, _, none⟩) NB299_301.out _).trans (hHeld.2.2.2.2.2.1)))), ((zT (p := ⟨gb301, _, none⟩) NB300_301.out _).trans (((zT (p := ⟨gb301, _, none⟩) NB300_301.out _).trans (hHeld.2.2.2.2.2.2.1)))), ((zT (p := ⟨gb301, _, none⟩) NB300_301.out _).trans (((zT (p := ⟨gb301, _, none⟩) NB300_301.out _).trans (hHeld.2.2.2.2.2.2.2))))⟩ (fun hHeld => ?_)
 clear hK K
 refine done_ (done_of HT_.out (by kernel_rfl)) ?_
 try go_wp2
 refine bodyPost_ret (results_cell_row rfl _ _ gb301 50 #[.int .i64 t304, .int .i64 t305] (0, 0) _ rfl (by (with_reducible repeat (first | refine zE ?_ _ | refine zI ?_ | refine zD ?_ _)); refine zS (cs := #[.int .i64 t304, .int .i64 0]) ?_ 1 _ rfl; (with_reducible repeat (first | refine zE ?_ _ | refine zI ?_ | refine zD ?_ _)); refine zS (cs := #[.int .i64 0, .int .i64 0]) ?_ 0 _ rfl; (with_reducible repeat (first | refine zE ?_ _ | refine zI ?_ | refine zD ?_ _)); exact BK301.out) Try.underlying50 rfl (by kernel_rfl)) rfl ?_
 exact ⟨by first | rfl | (simp [*, errW_none, errW_some] <;> rfl), by repeat (first | (with_reducible first | exact HB.out | apply zG | apply zA | apply zF | refine zH ?_ GE299.out | refine zH ?_ GE300.out | refine zH ?_ GE301.out) | exact HB.out)⟩
theorem wG.calls (a0 : Int) (a1 : Int) (r : Int) (w : World) (h : wG.f a0 a1 = some r) :
  Calls Try.prog 98 #[.int .i64 a0, .int .i64 a1] w fun e w' => e = .returned (.int .i64 r) ∧ Drawn0 w w' := by
 have H : (if a1 = 0 then (none) else (some (Int.tmod (wrap64 ((Int.tmod a0 a1) + a1)) a1))) = some r := h
 clear h
 by_cases c3 : a1 = 0
 ·
  rw [if_pos c3] at H
  exact absurd H (by simp)
 ·
  rw [if_neg c3] at H
  have c3b0 : (a1 == 0) = false := beq_eq_false_iff_ne.mpr c3
  have c3b1 : (a1 != 0) = true := bne_iff_ne.mpr c3
  obtain rfl := Option.some.inj H
  go_enter Try.func98, Try.ntmps98
  go_wp2
  go_ret
  exact ⟨by first | rfl | (simp; done) | (simp [*]; done), by repeat (first | exact Drawn0.refl _ | apply Drawn0.step)⟩
def xO.T2 : Bool × List (List Nat × List Nat) := (true, [([], []), ([0], [0]), ([], []), ([2], [2]), ([], []), ([3, 4], [3, 4]), ([], []), ([6], [6]), ([5, 7], [5, 7]), ([], []), ([9], [9]), ([8, 10], [8, 10]), ([1, 11], [1, 11]), ([], []), ([13], [13]), ([12, 14], [12, 14]), ([], []), ([15, 16], [15, 16]), ([17, 15, 0, 1, 2, 3, 4, 5, 6, 7, 8, 9, 10, 11, 12, 13, 14, 15, 16, 17], [17])])
def xO.B2 : List Nat := [0, 1, 0, 4, 0, 28, 0, 64, 252, 0, 512, 2044, 4095, 0, 8192, 32767, 0, 131071, 262143]
theorem xO.tab2 : rtab .any (opsOf Try.f110 2) = xO.T2 := by kernel_rfl
theorem xO.bits2 : waitsOk xO.T2.2 xO.B2 = true := by kernel_rfl
theorem xO.calls (a0_0 : Int) (a0_1 : Int) (a0_2 : Int) (a1_0 : Int) (a1_1 : Int) (r1 : Int) (r2 : Int) (w : World) (h : xO.f a0_0 a0_1 a0_2 a1_0 a1_1 = some (r1, r2)) :
  Calls Try.prog 110 #[.agg #[.int .i64 a0_0, .int .i64 a0_1, .int .i64 a0_2], .agg #[.int .i64 a1_0, .int .i64 a1_1]] w fun e w' => e = .returned (.agg #[.int .i64 r1, .int .i64 r2]) ∧ Below w.heap.size w w' := by
 have hu30 := Try.underlying30
 have hu50 := Try.underlying50
 have HB := zC.mk (Below.refl w.heap.size w)
 have H : ((wG.f a1_1 a0_2).bind fun t309 => (if a0_2 = 0 then (none) else ((wG.f (wrap64 (a1_0 - (wrap64 ((wrap64 (Int.tdiv (wrap64 (a1_1 - t309)) a0_2)) * a0_1)))) a0_0).bind fun t310 => (some (t310, t309))))) = some (r1, r2) := h
 clear h
 replace H := Option.bind_eq_some_iff.mp H
 obtain ⟨t309, A30, H⟩ := H
 replace H : (if a0_2 = 0 then (none) else ((wG.f (wrap64 (a1_0 - (wrap64 ((wrap64 (Int.tdiv (wrap64 (a1_1 - t309)) a0_2)) * a0_1)))) a0_0).bind fun t310 => (some (t310, t309)))) = some (r1, r2) := H
 have A3 := zC.mk A30
 clear A30
 by_cases c4 : a0_2 = 0
 ·
  rw [if_pos c4] at H
  exact absurd H (by simp)
 ·
  rw [if_neg c4] at H
  have c4b0 : (a0_2 == 0) = false := beq_eq_false_iff_ne.mpr c4
  have c4b1 : (a0_2 != 0) = true := bne_iff_ne.mpr c4
  replace H := Option.bind_eq_some_iff.mp H
  obtain ⟨t310, A50, H⟩ := H
  replace H : (some (t310, t309)) = some (r1, r2) := H
  have A5 := zC.mk A50
  clear A50
  simp only [Option.some.injEq, Prod.mk.injEq] at H
  obtain ⟨rfl, rfl⟩ := H
  go_enter Try.func110, Try.ntmps110
  try go_wp2_with (first | ((with_reducible refine zQ (N := 2) rfl ?_); refine zO ?hg (N := 2) ?hd (cs := #[.int .i64 a0_0, .int .i64 a0_1, .int .i64 a0_2]) (t := 30) ?hr ?_; (case hd => rfl); (case hg => rfl); (case hr => first | (go_simp; done) | (go_simp; rfl)); intro gb306 hg w6 hbox hb; have n0_ := zC.mk (zL (by repeat (first | (with_reducible first | exact HB.out | apply zG | apply zA | apply zF) | exact HB.out)) hb); have n1_ := zC.mk (hbox); have n2_ := zC.mk ((by rw [hg]; exact (zM (by repeat (first | (with_reducible first | exact HB.out | apply zG | apply zA | apply zF) | exact HB.out))) : w.heap.size ≤ gb306)); have n3_ := n2_; clear HB; have HB := n0_; have BK306 := n1_; have GW306 := n2_; have GE306 := n3_; clear n0_ n1_ n2_ n3_; clear hb hbox hg) | ((with_reducible refine zQ (N := 3) rfl ?_); refine zO ?hg (N := 3) ?hd (cs := #[.int .i64 a1_0, .int .i64 a1_1]) (t := 50) ?hr ?_; (case hd => rfl); (case hg => rfl); (case hr => first | (go_simp; done) | (go_simp; rfl)); intro gb307 hg w7 hbox hb; have n0_ := zC.mk (zK (g := gb306) (o := .cells #[.int .i64 a0_0, .int .i64 a0_1, .int .i64 a0_2] 30 (0, 0)) (by (with_reducible repeat (first | refine zE ?_ _ | refine zI ?_ | refine zD ?_ _)); exact BK306.out) hb); have n1_ := zC.mk (zL (by repeat (first | (with_reducible first | exact HB.out | apply zG | apply zA | apply zF | refine zH ?_ GE306.out) | exact HB.out)) hb); have n2_ := zC.mk (hbox); have n3_ := zC.mk ((by rw [hg]; exact (zM (by repeat (first | (with_reducible first | exact HB.out | apply zG | apply zA | apply zF | refine zH ?_ GE306.out) | exact HB.out))) : w.heap.size ≤ gb307)); have n4_ := n3_; have n5_ := zC.mk ((by rw [hg]; exact Nat.ne_of_lt (zV (by (with_reducible repeat (first | refine zE ?_ _ | refine zI ?_ | refine zD ?_ _)); exact BK306.out)) : gb306 ≠ gb307)); have n6_ := zC.mk n5_.out.symm; clear BK306; clear HB; have BK306 := n0_; have HB := n1_; have BK307 := n2_; have GW307 := n3_; have GE307 := n4_; have NB306_307 := n5_; have NB307_306 := n6_; clear n0_ n1_ n2_ n3_ n4_ n5_ n6_; clear hb hbox hg) | ((with_reducible refine zQ (N := 4) rfl ?_); refine zO ?hg (N := 4) ?hd (cs := #[.int .i64 0, .int .i64 0]) (t := 50) ?hr ?_; (case hd => rfl); (case hg => rfl); (case hr => first | (go_simp; done) | (go_simp; rfl)); intro gb308 hg w8 hbox hb; have n0_ := zC.mk (zK (g := gb306) (o := .cells #[.int .i64 a0_0, .int .i64 a0_1, .int .i64 a0_2] 30 (0, 0)) (by (with_reducible repeat (first | refine zE ?_ _ | refine zI ?_ | refine zD ?_ _)); exact BK306.out) hb); have n1_ := zC.mk (zK (g := gb307) (o := .cells #[.int .i64 a1_0, .int .i64 a1_1] 50 (0, 0)) (by (with_reducible repeat (first | refine zE ?_ _ | refine zI ?_ | refine zD ?_ _)); exact BK307.out) hb); have n2_ := zC.mk (zL (by repeat (first | (with_reducible first | exact HB.out | apply zG | apply zA | apply zF | refine zH ?_ GE306.out | refine zH ?_ GE307.out) | exact HB.out)) hb); have n3_ := zC.mk (hbox); have n4_ := zC.mk ((by rw [hg]; exact (zM (by repeat (first | (with_reducible first | exact HB.out | apply zG | apply zA | apply zF | refine zH ?_ GE306.out | refine zH ?_ GE307.out) | exact HB.out))) : w.heap.size ≤ gb308)); have n5_ := n4_; have n6_ := zC.mk ((by rw [hg]; exact Nat.ne_of_lt (zV (by (with_reducible repeat (first | refine zE ?_ _ | refine zI ?_ | refine zD ?_ _)); exact BK306.out)) : gb306 ≠ gb308)); have n7_ := zC.mk n6_.out.symm; have n8_ := zC.mk ((by rw [hg]; exact Nat.ne_of_lt (zV (by (with_reducible repeat (first | refine zE ?_ _ | refine zI ?_ | refine zD ?_ _)); exact BK307.out)) : gb307 ≠ gb308)); have n9_ := zC.mk n8_.out.symm; clear BK306; clear BK307; clear HB; have BK306 := n0_; have BK307 := n1_; have HB := n2_; have BK308 := n3_; have GW308 := n4_; have GE308 := n5_; have NB306_308 := n6_; have NB308_306 := n7_; have NB307_308 := n8_; have NB308_307 := n9_; clear n0_ n1_ n2_ n3_ n4_ n5_ n6_ n7_ n8_ n9_; clear hb hbox hg; have hnb9 := NB307_306.out; have hnc9 := NB306_307.out; have hnb10 := NB307_308.out; have hnc10 := NB308_307.out; have hcz11_0 : w8.cell? ⟨gb307, 0, none⟩ = some (.int .i64 a1_0) := zB BK307.out 0; have hcz11_1 : w8.cell? ⟨gb307, 1, none⟩ = some (.int .i64 a1_1) := zB BK307.out 1; have hfz11_0 := zJ BK307.out 0; have hfz11_1 := zJ BK307.out 1; have hnb12 := NB306_308.out; have hnc12 := NB308_306.out; have hcz13_0 : w8.cell? ⟨gb306, 0, none⟩ = some (.int .i64 a0_0) := zB BK306.out 0; have hcz13_1 : w8.cell? ⟨gb306, 1, none⟩ = some (.int .i64 a0_1) := zB BK306.out 1; have hcz13_2 : w8.cell? ⟨gb306, 2, none⟩ = some (.int .i64 a0_2) := zB BK306.out 2; have hfz13_0 := zJ BK306.out 0; have hfz13_1 := zJ BK306.out 1; have hfz13_2 := zJ BK306.out 2) | ((with_reducible refine zP (f := 98) rfl ?_); refine zX (some 10) rfl rfl Try.func98 (by kernel_rfl) rfl #[.int .i64 a1_1, .int .i64 a0_2] rfl (by (try simp only [List.map_toArray, List.map_cons, List.map_nil]); first | done | rfl) ?_; (with_reducible refine (wG.calls a1_1 a0_2 t309 _ A3.out).mono ?_); rintro e w' ⟨rfl, ⟨nd, rfl⟩⟩; refine ⟨_, rfl, ?_⟩; (try (rw [drewN_self w8]; generalize hq_ : World.drewN w8 _ = w8; have n0_ : zC (w8.heap[gb306]? = some (.cells #[.int .i64 a0_0, .int .i64 a0_1, .int .i64 a0_2] 30 (0, 0))) := ⟨by rw [← hq_]; exact (by (with_reducible repeat (first | refine zE ?_ _ | refine zI ?_ | refine zD ?_ _)); exact BK306.out)⟩; have n1_ : zC (w8.heap[gb307]? = some (.cells #[.int .i64 a1_0, .int .i64 a1_1] 50 (0, 0))) := ⟨by rw [← hq_]; exact (by (with_reducible repeat (first | refine zE ?_ _ | refine zI ?_ | refine zD ?_ _)); exact BK307.out)⟩; have n2_ : zC (w8.heap[gb308]? = some (.cells #[.int .i64 0, .int .i64 0] 50 (0, 0))) := ⟨by rw [← hq_]; exact (by (with_reducible repeat (first | refine zE ?_ _ | refine zI ?_ | refine zD ?_ _)); exact BK308.out)⟩; have n3_ : zC (Below w.heap.size w w8) := ⟨by rw [← hq_]; exact (by repeat (first | (with_reducible first | exact HB.out | apply zG | apply zA | apply zF | refine zH ?_ GE306.out | refine zH ?_ GE307.out | refine zH ?_ GE308.out) | exact HB.out))⟩; clear BK306 BK307 BK308 HB hq_; have BK306 := n0_; have BK307 := n1_; have BK308 := n2_; have HB := n3_; clear n0_ n1_ n2_ n3_))))
  have n0_ := zC.mk (zI BK306.out)
  have n1_ := zC.mk (zI BK307.out)
  have n2_ := zC.mk (zI BK308.out)
  have n3_ := zC.mk (zF HB.out)
  clear BK306
  clear BK307
  clear BK308
  clear HB
  have BK306 := n0_
  have BK307 := n1_
  have BK308 := n2_
  have HB := n3_
  clear n0_ n1_ n2_ n3_
  refine start_ (n := 19) (S := fun w' => w'.cell? ⟨gb307, 0, none⟩ = some (.int .i64 a1_0) ∧ w'.cell? ⟨gb307, 1, none⟩ = some (.int .i64 a1_1) ∧ w'.cell? ⟨gb306, 0, none⟩ = some (.int .i64 a0_0) ∧ w'.cell? ⟨gb306, 1, none⟩ = some (.int .i64 a0_1) ∧ w'.cell? ⟨gb306, 2, none⟩ = some (.int .i64 a0_2)) (ds := []) #[false, false, false, false, false, false, false, false, false, false, false, false, false, false, false, false, false, false, false] (by kernel_rfl) rfl rfl ⟨zB BK307.out 0, zB BK307.out 1, zB BK306.out 0, zB BK306.out 1, zB BK306.out 2⟩ (fun hHeld => ?_); refine yE xO.tab2 xO.bits2 (fun HT_ HW_ => ?_)
  generalize w8.drew = w14 at BK306 BK307 BK308 HB hHeld ⊢
  refine zR (i := 0) (N := some 11) (v := ?_) (a' := ?_) #[true, false, false, false, false, false, false, false, false, false, false, false, false, false, false, false, false, false, false] rfl rfl (zN HT_.out (by kernel_rfl)) (fun _ _ _ h => h) (Or.inl ⟨by rfl, ?_⟩) ?_ ?_
  rotate_left
  ·
   intro w'
   go_simp
   with_reducible rfl
  rotate_left
  ·
   simp only [Act.put, List.setIfInBounds_toArray, List.set_cons_zero, List.set_cons_succ, zY, zZ]
   rfl
  refine zR (i := 2) (N := some 13) (v := ?_) (a' := ?_) #[true, false, true, false, false, false, false, false, false, false, false, false, false, false, false, false, false, false, false] rfl rfl (zN HT_.out (by kernel_rfl)) (fun _ _ _ h => h) (Or.inl ⟨by rfl, ?_⟩) ?_ ?_
  rotate_left
  ·
   intro w'
   go_simp
   with_reducible rfl
  rotate_left
  ·
   simp only [Act.put, List.setIfInBounds_toArray, List.set_cons_zero, List.set_cons_succ, zY, zZ]
   rfl
  refine zR (i := 4) (N := some 15) (v := ?_) (a' := ?_) #[true, false, true, false, true, false, false, false, false, false, false, false, false, false, false, false, false, false, false] rfl rfl (zN HT_.out (by kernel_rfl)) (fun _ _ _ h => h) (Or.inl ⟨by rfl, ?_⟩) ?_ ?_
  rotate_left
  ·
   intro w'
   go_simp
   with_reducible rfl
  rotate_left
  ·
   simp only [Act.put, List.setIfInBounds_toArray, List.set_cons_zero, List.set_cons_succ, zY, zZ]
   rfl
  refine zR (i := 6) (N := some 17) (v := ?_) (a' := ?_) #[true, false, true, false, true, false, true, false, false, false, false, false, false, false, false, false, false, false, false] rfl rfl (zN HT_.out (by kernel_rfl)) (fun _ _ _ h => h) (Or.inl ⟨by rfl, ?_⟩) ?_ ?_
  rotate_left
  ·
   intro w'
   go_simp
   with_reducible rfl
  rotate_left
  ·
   simp only [Act.put, List.setIfInBounds_toArray, List.set_cons_zero, List.set_cons_succ, zY, zZ]
   rfl
  refine zR (i := 9) (N := some 20) (v := ?_) (a' := ?_) #[true, false, true, false, true, false, true, false, false, true, false, false, false, false, false, false, false, false, false] rfl rfl (zN HT_.out (by kernel_rfl)) (fun _ _ _ h => h) (Or.inl ⟨by rfl, ?_⟩) ?_ ?_
  rotate_left
  ·
   intro w'
   go_simp
   with_reducible rfl
  rotate_left
  ·
   simp only [Act.put, List.setIfInBounds_toArray, List.set_cons_zero, List.set_cons_succ, zY, zZ]
   rfl
  refine zR (i := 13) (N := some 24) (v := ?_) (a' := ?_) #[true, false, true, false, true, false, true, false, false, true, false, false, false, true, false, false, false, false, false] rfl rfl (zN HT_.out (by kernel_rfl)) (fun _ _ _ h => h) (Or.inl ⟨by rfl, ?_⟩) ?_ ?_
  rotate_left
  ·
   intro w'
   go_simp
   with_reducible rfl
  rotate_left
  ·
   simp only [Act.put, List.setIfInBounds_toArray, List.set_cons_zero, List.set_cons_succ, zY, zZ]
   rfl
  refine zR (i := 16) (N := some 27) (v := ?_) (a' := ?_) #[true, false, true, false, true, false, true, false, false, true, false, false, false, true, false, false, true, false, false] rfl rfl (zN HT_.out (by kernel_rfl)) (fun _ _ _ h => h) (Or.inl ⟨by rfl, ?_⟩) ?_ ?_
  rotate_left
  ·
   intro w'
   go_simp
   with_reducible rfl
  rotate_left
  ·
   simp only [Act.put, List.setIfInBounds_toArray, List.set_cons_zero, List.set_cons_succ, zY, zZ]
   rfl
  refine yC (i := 1) (N := some 12) (v := ?_) (a' := ?_) #[true, true, true, false, true, false, true, false, false, true, false, false, false, true, false, false, true, false, false] rfl rfl (zW HT_.out HW_.out (by kernel_rfl)) (fun _ _ _ h => h) (Or.inl ⟨by rfl, ?_⟩) hHeld ?_ ?_
  rotate_left
  ·
   rintro w' ⟨s0, s1, s2, s3, s4⟩
   go_simp
   with_reducible rfl
  rotate_left
  ·
   simp only [Act.put, List.setIfInBounds_toArray, List.set_cons_zero, List.set_cons_succ, zY, zZ]
   rfl
  refine yC (i := 3) (N := some 14) (v := ?_) (a' := ?_) #[true, true, true, true, true, false, true, false, false, true, false, false, false, true, false, false, true, false, false] rfl rfl (zW HT_.out HW_.out (by kernel_rfl)) (fun _ _ _ h => h) (Or.inl ⟨by rfl, ?_⟩) hHeld ?_ ?_
  rotate_left
  ·
   rintro w' ⟨s0, s1, s2, s3, s4⟩
   go_simp
   with_reducible rfl
  rotate_left
  ·
   simp only [Act.put, List.setIfInBounds_toArray, List.set_cons_zero, List.set_cons_succ, zY, zZ]
   rfl
  refine zR (i := 5) (N := some 16) (v := ?_) (a' := ?_) #[true, true, true, true, true, true, true, false, false, true, false, false, false, true, false, false, true, false, false] rfl rfl (zN HT_.out (by kernel_rfl)) (fun _ _ _ h => h) (Or.inl ⟨by rfl, ?_⟩) ?_ ?_
  rotate_left
  ·
   intro w'
   go_simp
   with_reducible rfl
  rotate_left
  ·
   simp only [Act.put, List.setIfInBounds_toArray, List.set_cons_zero, List.set_cons_succ, zY, zZ]
   rfl
  refine yC (i := 7) (N := some 18) (v := ?_) (a' := ?_) #[true, true, true, true, true, true, true, true, false, true, false, false, false, true, false, false, true, false, false] rfl rfl (zW HT_.out HW_.out (by kernel_rfl)) (fun _ _ _ h => h) (Or.inl ⟨by rfl, ?_⟩) hHeld ?_ ?_
  rotate_left
  ·
   rintro w' ⟨s0, s1, s2, s3, s4⟩
   go_simp
   with_reducible rfl
  rotate_left
  ·
   simp only [Act.put, List.setIfInBounds_toArray, List.set_cons_zero, List.set_cons_succ, zY, zZ]
   rfl
  refine zR (i := 8) (N := some 19) (v := ?_) (a' := ?_) #[true, true, true, true, true, true, true, true, true, true, false, false, false, true, false, false, true, false, false] rfl rfl (zN HT_.out (by kernel_rfl)) (fun _ _ _ h => h) (Or.inl ⟨by rfl, ?_⟩) ?_ ?_
  rotate_left
  ·
   intro w'
   go_simp
   with_reducible rfl
  rotate_left
  ·
   simp only [Act.put, List.setIfInBounds_toArray, List.set_cons_zero, List.set_cons_succ, zY, zZ]
   rfl
  refine yC (i := 10) (N := some 21) (v := ?_) (a' := ?_) #[true, true, true, true, true, true, true, true, true, true, true, false, false, true, false, false, true, false, false] rfl rfl (zW HT_.out HW_.out (by kernel_rfl)) (fun _ _ _ h => h) (Or.inl ⟨by rfl, ?_⟩) hHeld ?_ ?_
  rotate_left
  ·
   rintro w' ⟨s0, s1, s2, s3, s4⟩
   go_simp
   with_reducible rfl
  rotate_left
  ·
   simp only [Act.put, List.setIfInBounds_toArray, List.set_cons_zero, List.set_cons_succ, zY, zZ]
   rfl
  refine zR (i := 11) (N := some 22) (v := ?_) (a' := ?_) #[true, true, true, true, true, true, true, true, true, true, true, true, false, true, false, false, true, false, false] rfl rfl (zN HT_.out (by kernel_rfl)) (fun _ _ _ h => h) (Or.inl ⟨by rfl, ?_⟩) ?_ ?_
  rotate_left
  ·
   intro w'
   go_simp
   with_reducible rfl
  rotate_left
  ·
   simp only [Act.put, List.setIfInBounds_toArray, List.set_cons_zero, List.set_cons_succ, zY, zZ]
   rfl
  refine zR (i := 12) (N := some 23) (v := ?_) (a' := ?_) #[true, true, true, true, true, true, true, true, true, true, true, true, true, true, false, false, true, false, false] rfl rfl (zN HT_.out (by kernel_rfl)) (fun _ _ _ h => h) (Or.inl ⟨by rfl, ?_⟩) ?_ ?_
  rotate_left
  ·
   intro w'
   go_simp
   with_reducible rfl
  rotate_left
  ·
   simp only [Act.put, List.setIfInBounds_toArray, List.set_cons_zero, List.set_cons_succ, zY, zZ]
   rfl
  refine yC (i := 14) (N := some 25) (v := ?_) (a' := ?_) #[true, true, true, true, true, true, true, true, true, true, true, true, true, true, true, false, true, false, false] rfl rfl (zW HT_.out HW_.out (by kernel_rfl)) (fun _ _ _ h => h) (Or.inl ⟨by rfl, ?_⟩) hHeld ?_ ?_
  rotate_left
  ·
   rintro w' ⟨s0, s1, s2, s3, s4⟩
   go_simp
   with_reducible rfl
  rotate_left
  ·
   simp only [Act.put, List.setIfInBounds_toArray, List.set_cons_zero, List.set_cons_succ, zY, zZ]
   rfl
  refine one_ (i := 15) (N := some 26) #[true, true, true, true, true, true, true, true, true, true, true, true, true, true, true, true, true, false, false] rfl rfl (yB HT_.out (by kernel_rfl)) (by decide) (fun K hK => ?_)
  refine yD Try.func98 (by kernel_rfl) rfl #[.int .i64 (wrap64 (a1_0 - (wrap64 ((wrap64 (Int.tdiv (wrap64 (a1_1 - t309)) a0_2)) * a0_1)))), .int .i64 a0_0] (by rfl) rfl rfl (by (try simp only [List.map_toArray, List.map_cons, List.map_nil]); first | done | rfl) ?_
  with_reducible refine (wG.calls (wrap64 (a1_0 - (wrap64 ((wrap64 (Int.tdiv (wrap64 (a1_1 - t309)) a0_2)) * a0_1)))) a0_0 t310 _ A5.out).mono ?_
  rintro e w' ⟨rfl, ⟨nd, rfl⟩⟩
  refine ⟨_, rfl, ?_⟩
  refine hK.out _ _ ⟨zB BK307.out 0, zB BK307.out 1, zB BK306.out 0, zB BK306.out 1, zB BK306.out 2⟩ (fun hHeld => ?_)
  clear hK K
  refine yA (a' := ?_) ?_ ?_
  rotate_left
  ·
   show Act.put _ (some 26) _ = _
   simp only [Act.put, List.setIfInBounds_toArray, List.set_cons_zero, List.set_cons_succ, zY, zZ]
   rfl
  refine zR (i := 17) (N := some 28) (v := ?_) (a' := ?_) #[true, true, true, true, true, true, true, true, true, true, true, true, true, true, true, true, true, true, false] rfl rfl (zN HT_.out (by kernel_rfl)) (fun _ _ _ h => h) (Or.inl ⟨by rfl, ?_⟩) ?_ ?_
  rotate_left
  ·
   intro w'
   go_simp
   with_reducible rfl
  rotate_left
  ·
   simp only [Act.put, List.setIfInBounds_toArray, List.set_cons_zero, List.set_cons_succ, zY, zZ]
   rfl
  refine one_ (i := 18) (N := none) #[true, true, true, true, true, true, true, true, true, true, true, true, true, true, true, true, true, true, true] rfl rfl (yB HT_.out (by kernel_rfl)) (by decide) (fun K hK => ?_)
  have hs15 : w14.cell? ⟨gb308, 0, none⟩ = some (.int .i64 0) := zB BK308.out 0
  have hfs15 := zJ BK308.out 0
  have hns15_0 := NB306_308.out
  have hns15_1 := NB307_308.out
  have hms15_0 := NB308_306.out
  have hms15_1 := NB308_307.out
  have hs16 : w14.cell? ⟨gb308, 1, none⟩ = some (.int .i64 0) := zB BK308.out 1
  have hfs16 := zJ BK308.out 1
  have hns16_0 := NB306_308.out
  have hns16_1 := NB307_308.out
  have hms16_0 := NB308_306.out
  have hms16_1 := NB308_307.out
  refine skip_ (w1 := ?_) (by rfl) rfl ?_ ?_
  rotate_left
  ·
   go_simp
   rfl
  refine hK.out _ _ ⟨((zT (p := ⟨gb308, _, none⟩) NB307_308.out _).trans (((zT (p := ⟨gb308, _, none⟩) NB307_308.out _).trans (hHeld.1)))), ((zT (p := ⟨gb308, _, none⟩) NB307_308.out _).trans (((zT (p := ⟨gb308, _, none⟩) NB307_308.out _).trans (hHeld.2.1)))), ((zT (p := ⟨gb308, _, none⟩) NB306_308.out _).trans (((zT (p := ⟨gb308, _, none⟩) NB306_308.out _).trans (hHeld.2.2.1)))), ((zT (p := ⟨gb308, _, none⟩) NB306_308.out _).trans (((zT (p := ⟨gb308, _, none⟩) NB306_308.out _).trans (hHeld.2.2.2.1)))), ((zT (p := ⟨gb308, _, none⟩) NB306_308.out _).trans (((zT (p := ⟨gb308, _, none⟩) NB306_308.out _).trans (hHeld.2.2.2.2))))⟩ (fun hHeld => ?_)
  clear hK K
  refine done_ (done_of HT_.out (by kernel_rfl)) ?_
  try go_wp2
  refine bodyPost_ret (results_cell_row rfl _ _ gb308 50 #[.int .i64 t310, .int .i64 t309] (0, 0) _ rfl (by (with_reducible repeat (first | refine zE ?_ _ | refine zI ?_ | refine zD ?_ _)); refine zS (cs := #[.int .i64 t310, .int .i64 0]) ?_ 1 _ rfl; (with_reducible repeat (first | refine zE ?_ _ | refine zI ?_ | refine zD ?_ _)); refine zS (cs := #[.int .i64 0, .int .i64 0]) ?_ 0 _ rfl; (with_reducible repeat (first | refine zE ?_ _ | refine zI ?_ | refine zD ?_ _)); exact BK308.out) Try.underlying50 rfl (by kernel_rfl)) rfl ?_
  exact ⟨by first | rfl | (simp [*, errW_none, errW_some] <;> rfl), by repeat (first | (with_reducible first | exact HB.out | apply zG | apply zA | apply zF | refine zH ?_ GE306.out | refine zH ?_ GE307.out | refine zH ?_ GE308.out) | exact HB.out)⟩
theorem wB.calls (a0_0 : Int) (a0_1 : Int) (a0_2 : Int) (a1_0 : Int) (a1_1 : Int) (r : Int) (w : World) (h : wB.f a0_0 a0_1 a0_2 a1_0 a1_1 = some r) :
  Calls Try.prog 194 #[.agg #[.int .i64 a0_0, .int .i64 a0_1, .int .i64 a0_2], .agg #[.int .i64 a1_0, .int .i64 a1_1]] w fun e w' => e = .returned (.int .i64 r) ∧ Below w.heap.size w w' := by
 have hu30 := Try.underlying30
 have hu50 := Try.underlying50
 have HB := zC.mk (Below.refl w.heap.size w)
 have H : (some (wrap64 ((wrap64 (a1_0 * a0_2)) + a1_1))) = some r := h
 clear h
 obtain rfl := Option.some.inj H
 go_enter Try.func194, Try.ntmps194
 go_wp2_with (first | ((with_reducible refine zQ (N := 2) rfl ?_); refine zO ?hg (N := 2) ?hd (cs := #[.int .i64 a0_0, .int .i64 a0_1, .int .i64 a0_2]) (t := 30) ?hr ?_; (case hd => rfl); (case hg => rfl); (case hr => first | (go_simp; done) | (go_simp; rfl)); intro gb311 hg w3 hbox hb; have n0_ := zC.mk (zL (by repeat (first | (with_reducible first | exact HB.out | apply zG | apply zA | apply zF) | exact HB.out)) hb); have n1_ := zC.mk (hbox); have n2_ := zC.mk ((by rw [hg]; exact (zM (by repeat (first | (with_reducible first | exact HB.out | apply zG | apply zA | apply zF) | exact HB.out))) : w.heap.size ≤ gb311)); have n3_ := n2_; clear HB; have HB := n0_; have BK311 := n1_; have GW311 := n2_; have GE311 := n3_; clear n0_ n1_ n2_ n3_; clear hb hbox hg) | ((with_reducible refine zQ (N := 3) rfl ?_); refine zO ?hg (N := 3) ?hd (cs := #[.int .i64 a1_0, .int .i64 a1_1]) (t := 50) ?hr ?_; (case hd => rfl); (case hg => rfl); (case hr => first | (go_simp; done) | (go_simp; rfl)); intro gb312 hg w4 hbox hb; have n0_ := zC.mk (zK (g := gb311) (o := .cells #[.int .i64 a0_0, .int .i64 a0_1, .int .i64 a0_2] 30 (0, 0)) (by (with_reducible repeat (first | refine zE ?_ _ | refine zI ?_ | refine zD ?_ _)); exact BK311.out) hb); have n1_ := zC.mk (zL (by repeat (first | (with_reducible first | exact HB.out | apply zG | apply zA | apply zF | refine zH ?_ GE311.out) | exact HB.out)) hb); have n2_ := zC.mk (hbox); have n3_ := zC.mk ((by rw [hg]; exact (zM (by repeat (first | (with_reducible first | exact HB.out | apply zG | apply zA | apply zF | refine zH ?_ GE311.out) | exact HB.out))) : w.heap.size ≤ gb312)); have n4_ := n3_; have n5_ := zC.mk ((by rw [hg]; exact Nat.ne_of_lt (zV (by (with_reducible repeat (first | refine zE ?_ _ | refine zI ?_ | refine zD ?_ _)); exact BK311.out)) : gb311 ≠ gb312)); have n6_ := zC.mk n5_.out.symm; clear BK311; clear HB; have BK311 := n0_; have HB := n1_; have BK312 := n2_; have GW312 := n3_; have GE312 := n4_; have NB311_312 := n5_; have NB312_311 := n6_; clear n0_ n1_ n2_ n3_ n4_ n5_ n6_; clear hb hbox hg; have hnb5 := NB312_311.out; have hnc5 := NB311_312.out; have hcz6_0 : w4.cell? ⟨gb312, 0, none⟩ = some (.int .i64 a1_0) := zB BK312.out 0; have hcz6_1 : w4.cell? ⟨gb312, 1, none⟩ = some (.int .i64 a1_1) := zB BK312.out 1; have hfz6_0 := zJ BK312.out 0; have hfz6_1 := zJ BK312.out 1; have hcz7_0 : w4.cell? ⟨gb311, 0, none⟩ = some (.int .i64 a0_0) := zB BK311.out 0; have hcz7_1 : w4.cell? ⟨gb311, 1, none⟩ = some (.int .i64 a0_1) := zB BK311.out 1; have hcz7_2 : w4.cell? ⟨gb311, 2, none⟩ = some (.int .i64 a0_2) := zB BK311.out 2; have hfz7_0 := zJ BK311.out 0; have hfz7_1 := zJ BK311.out 1; have hfz7_2 := zJ BK311.out 2))
 go_ret
 exact ⟨by first | rfl | (simp [*, errW_none, errW_some] <;> rfl), by repeat (first | (with_reducible first | exact HB.out | apply zG | apply zA | apply zF | refine zH ?_ GE311.out | refine zH ?_ GE312.out) | exact HB.out)⟩
def xT.T1 : Bool × List (List Nat × List Nat) := (true, [([], []), ([0], [0]), ([], []), ([2], [2]), ([], []), ([4], [4]), ([], []), ([5, 6], [5, 6]), ([3, 7, 7], [3, 7]), ([1, 8], [1, 8]), ([9], [9]), ([10, 8, 0, 1, 2, 3, 4, 5, 6, 7, 8, 9, 10], [10])])
def xT.B1 : List Nat := [0, 1, 0, 4, 0, 16, 0, 112, 252, 511, 1023, 2047]
theorem xT.tab1 : rtab .any (opsOf Try.f185 1) = xT.T1 := by kernel_rfl
theorem xT.bits1 : waitsOk xT.T1.2 xT.B1 = true := by kernel_rfl
theorem xT.calls (a0_0 : Int) (a0_1 : Int) (a0_2 : Int) (a0_3 : Int) (A0_4 : Option Addr) (c0_4 : Nat) (l0_4 : List Int) (a1_0 : Int) (a1_1 : Int) (r : Int) (w : World) (hr0_4 : Kd.C (Kd.int .i64) w A0_4 l0_4.length l0_4) (hc0_4 : l0_4.length ≤ c0_4) (h : xT.f a0_0 a0_1 a0_2 a0_3 l0_4 a1_0 a1_1 = some r) :
  Calls Try.prog 185 #[.agg #[.int .i64 a0_0, .int .i64 a0_1, .int .i64 a0_2, .int .i64 a0_3, .slice A0_4 l0_4.length c0_4], .agg #[.int .i64 a1_0, .int .i64 a1_1]] w fun e w' => e = .returned (.int .i64 r) ∧ Below w.heap.size w w' := by
 have hu32 := Try.underlying32
 have hu50 := Try.underlying50
 have hu30 := Try.underlying30
 have HR0_4 := zC.mk hr0_4
 have HC0_4 := zC.mk hc0_4
 clear hr0_4 hc0_4
 have HB := zC.mk (Below.refl w.heap.size w)
 have H : ((xO.f a0_1 a0_2 a0_3 a1_0 a1_1).bind fun bt315 => ((wB.f a0_1 a0_2 a0_3 bt315.1 bt315.2).bind fun t317 => (if 0 ≤ t317 then (if t317 < (l0_4.length : Int) then (some (rd l0_4 t317)) else (none)) else (none)))) = some r := h
 clear h
 replace H := Option.bind_eq_some_iff.mp H
 obtain ⟨⟨t315, t316⟩, A30, H⟩ := H
 replace H : ((wB.f a0_1 a0_2 a0_3 t315 t316).bind fun t317 => (if 0 ≤ t317 then (if t317 < (l0_4.length : Int) then (some (rd l0_4 t317)) else (none)) else (none))) = some r := H
 have A3 := zC.mk A30
 clear A30
 replace H := Option.bind_eq_some_iff.mp H
 obtain ⟨t317, A40, H⟩ := H
 replace H : (if 0 ≤ t317 then (if t317 < (l0_4.length : Int) then (some (rd l0_4 t317)) else (none)) else (none)) = some r := H
 have A4 := zC.mk A40
 clear A40
 by_cases c5 : 0 ≤ t317
 ·
  rw [if_pos c5] at H
  have c5b0 : decide (0 ≤ t317) = true := decide_eq_true c5
  clear c5
  by_cases c6 : t317 < (l0_4.length : Int)
  ·
   rw [if_pos c6] at H
   have c6b0 : decide (t317 < (l0_4.length : Int)) = true := decide_eq_true c6
   clear c6
   obtain rfl := Option.some.inj H
   go_enter Try.func185, Try.ntmps185
   try go_wp2_with (first | ((with_reducible refine zQ (N := 2) rfl ?_); refine zO ?hg (N := 2) ?hd (cs := #[.int .i64 a0_0, .int .i64 a0_1, .int .i64 a0_2, .int .i64 a0_3, .slice A0_4 l0_4.length c0_4]) (t := 32) ?hr ?_; (case hd => rfl); (case hg => rfl); (case hr => first | (go_simp; done) | (go_simp; rfl)); intro gb313 hg w7 hbox hb; have n0_ := zC.mk (zL (by repeat (first | (with_reducible first | exact HB.out | apply zG | apply zA | apply zF) | exact HB.out)) hb); have n1_ := zC.mk (hbox); have n2_ := zC.mk ((by rw [hg]; exact (zM (by repeat (first | (with_reducible first | exact HB.out | apply zG | apply zA | apply zF) | exact HB.out))) : w.heap.size ≤ gb313)); have n3_ := n2_; clear HB; have HB := n0_; have BK313 := n1_; have GW313 := n2_; have GE313 := n3_; clear n0_ n1_ n2_ n3_; clear hb hbox hg) | ((with_reducible refine zQ (N := 3) rfl ?_); refine zO ?hg (N := 3) ?hd (cs := #[.int .i64 a1_0, .int .i64 a1_1]) (t := 50) ?hr ?_; (case hd => rfl); (case hg => rfl); (case hr => first | (go_simp; done) | (go_simp; rfl)); intro gb314 hg w8 hbox hb; have n0_ := zC.mk (zK (g := gb313) (o := .cells #[.int .i64 a0_0, .int .i64 a0_1, .int .i64 a0_2, .int .i64 a0_3, .slice A0_4 l0_4.length c0_4] 32 (0, 0)) (by (with_reducible repeat (first | refine zE ?_ _ | refine zI ?_ | refine zD ?_ _)); exact BK313.out) hb); have n1_ := zC.mk (zL (by repeat (first | (with_reducible first | exact HB.out | apply zG | apply zA | apply zF | refine zH ?_ GE313.out) | exact HB.out)) hb); have n2_ := zC.mk (hbox); have n3_ := zC.mk ((by rw [hg]; exact (zM (by repeat (first | (with_reducible first | exact HB.out | apply zG | apply zA | apply zF | refine zH ?_ GE313.out) | exact HB.out))) : w.heap.size ≤ gb314)); have n4_ := n3_; have n5_ := zC.mk ((by rw [hg]; exact Nat.ne_of_lt (zV (by (with_reducible repeat (first | refine zE ?_ _ | refine zI ?_ | refine zD ?_ _)); exact BK313.out)) : gb313 ≠ gb314)); have n6_ := zC.mk n5_.out.symm; clear BK313; clear HB; have BK313 := n0_; have HB := n1_; have BK314 := n2_; have GW314 := n3_; have GE314 := n4_; have NB313_314 := n5_; have NB314_313 := n6_; clear n0_ n1_ n2_ n3_ n4_ n5_ n6_; clear hb hbox hg))
   have n0_ := zC.mk (zI BK313.out)
   have n1_ := zC.mk (zI BK314.out)
   have n2_ := zC.mk (zF HB.out)
   clear BK313
   clear BK314
   clear HB
   have BK313 := n0_
   have BK314 := n1_
   have HB := n2_
   clear n0_ n1_ n2_
   have p318 : 0 ≤ (t317 : Int) := of_decide_eq_true (by first | (with_reducible assumption) | assumption)
   have q318 : t317 < (l0_4.length : Int) := of_decide_eq_true (by first | (with_reducible assumption) | assumption)
   obtain ⟨ad318, e318, hx318_0⟩ := Kd.at_int HR0_4.out t317 p318 q318
   have hw318_0 := hx318_0
   cases e318
   replace hx318_0 := (HB.out.cell (World.block_lt_of_cell? w _ hx318_0)).trans hx318_0
   replace p318 := eq_true p318
   replace q318 := eq_true q318
   refine start_ (n := 12) (S := fun w' => w'.cell? ⟨gb313, 0, none⟩ = some (.int .i64 a0_0) ∧ w'.cell? ⟨gb313, 1, none⟩ = some (.int .i64 a0_1) ∧ w'.cell? ⟨gb313, 2, none⟩ = some (.int .i64 a0_2) ∧ w'.cell? ⟨gb313, 3, none⟩ = some (.int .i64 a0_3) ∧ w'.cell? ⟨gb313, 4, none⟩ = some (.slice (some ad318) l0_4.length c0_4) ∧ w'.cell? ⟨gb314, 0, none⟩ = some (.int .i64 a1_0) ∧ w'.cell? ⟨gb314, 1, none⟩ = some (.int .i64 a1_1) ∧ w'.cell? (ad318.add (t317).toNat) = some (.int .i64 (rd l0_4 t317))) (ds := []) #[false, false, false, false, false, false, false, false, false, false, false, false] (by kernel_rfl) rfl rfl ⟨zB BK313.out 0, zB BK313.out 1, zB BK313.out 2, zB BK313.out 3, zB BK313.out 4, zB BK314.out 0, zB BK314.out 1, ((HB.out.cell (World.block_lt_of_cell? w _ hw318_0)).trans hw318_0)⟩ (fun hHeld => ?_); refine yE xT.tab1 xT.bits1 (fun HT_ HW_ => ?_)
   generalize w8.drew = w9 at BK313 BK314 HB hx318_0 hHeld ⊢
   refine zR (i := 0) (N := some 5) (v := ?_) (a' := ?_) #[true, false, false, false, false, false, false, false, false, false, false, false] rfl rfl (zN HT_.out (by kernel_rfl)) (fun _ _ _ h => h) (Or.inl ⟨by rfl, ?_⟩) ?_ ?_
   rotate_left
   ·
    intro w'
    go_simp
    with_reducible rfl
   rotate_left
   ·
    go_simp
    rfl
   refine zR (i := 2) (N := some 7) (v := ?_) (a' := ?_) #[true, false, true, false, false, false, false, false, false, false, false, false] rfl rfl (zN HT_.out (by kernel_rfl)) (fun _ _ _ h => h) (Or.inl ⟨by rfl, ?_⟩) ?_ ?_
   rotate_left
   ·
    intro w'
    go_simp
    with_reducible rfl
   rotate_left
   ·
    go_simp
    rfl
   refine zR (i := 4) (N := some 9) (v := ?_) (a' := ?_) #[true, false, true, false, true, false, false, false, false, false, false, false] rfl rfl (zN HT_.out (by kernel_rfl)) (fun _ _ _ h => h) (Or.inl ⟨by rfl, ?_⟩) ?_ ?_
   rotate_left
   ·
    intro w'
    go_simp
    with_reducible rfl
   rotate_left
   ·
    go_simp
    rfl
   refine yC (i := 1) (N := some 6) (v := ?_) (a' := ?_) #[true, true, true, false, true, false, false, false, false, false, false, false] rfl rfl (zW HT_.out HW_.out (by kernel_rfl)) (fun _ _ _ h => h) (Or.inl ⟨by rfl, ?_⟩) hHeld ?_ ?_
   rotate_left
   ·
    rintro w' ⟨s0, s1, s2, s3, s4, s5, s6, s7⟩
    go_simp
    with_reducible rfl
   rotate_left
   ·
    go_simp
    rfl
   refine yC (i := 3) (N := some 8) (v := ?_) (a' := ?_) #[true, true, true, true, true, false, false, false, false, false, false, false] rfl rfl (zW HT_.out HW_.out (by kernel_rfl)) (fun _ _ _ h => h) (Or.inl ⟨by rfl, ?_⟩) hHeld ?_ ?_
   rotate_left
   ·
    rintro w' ⟨s0, s1, s2, s3, s4, s5, s6, s7⟩
    go_simp
    with_reducible rfl
   rotate_left
   ·
    go_simp
    rfl
   refine yC (i := 5) (N := some 10) (v := ?_) (a' := ?_) #[true, true, true, true, true, true, false, false, false, false, false, false] rfl rfl (zW HT_.out HW_.out (by kernel_rfl)) (fun _ _ _ h => h) (Or.inl ⟨by rfl, ?_⟩) hHeld ?_ ?_
   rotate_left
   ·
    rintro w' ⟨s0, s1, s2, s3, s4, s5, s6, s7⟩
    go_simp
    with_reducible rfl
   rotate_left
   ·
    go_simp
    rfl
   refine yC (i := 6) (N := some 11) (v := ?_) (a' := ?_) #[true, true, true, true, true, true, true, false, false, false, false, false] rfl rfl (zW HT_.out HW_.out (by kernel_rfl)) (fun _ _ _ h => h) (Or.inl ⟨by rfl, ?_⟩) hHeld ?_ ?_
   rotate_left
   ·
    rintro w' ⟨s0, s1, s2, s3, s4, s5, s6, s7⟩
    go_simp
    with_reducible rfl
   rotate_left
   ·
    go_simp
    rfl
   refine one_ (i := 7) (N := some 12) #[true, true, true, true, true, true, true, true, false, false, false, false] rfl rfl (yB HT_.out (by kernel_rfl)) (by decide) (fun K hK => ?_)
   refine yD Try.func110 (by kernel_rfl) rfl #[.agg #[.int .i64 a0_1, .int .i64 a0_2, .int .i64 a0_3], .agg #[.int .i64 a1_0, .int .i64 a1_1]] (by rfl) rfl rfl (by (try simp only [List.map_toArray, List.map_cons, List.map_nil]); first | done | rfl) ?_
   with_reducible refine (xO.calls a0_1 a0_2 a0_3 a1_0 a1_1 t315 t316 _ A3.out).mono ?_
   rintro e w10 ⟨rfl, hb⟩
   refine ⟨_, rfl, ?_⟩
   have n0_ := zC.mk (zK (g := gb313) (o := .cells #[.int .i64 a0_0, .int .i64 a0_1, .int .i64 a0_2, .int .i64 a0_3, .slice (some ad318) l0_4.length c0_4] 32 (0, 0)) (by (with_reducible repeat (first | refine zE ?_ _ | refine zI ?_ | refine zD ?_ _)); exact BK313.out) hb)
   have n1_ := zC.mk (zK (g := gb314) (o := .cells #[.int .i64 a1_0, .int .i64 a1_1] 50 (0, 0)) (by (with_reducible repeat (first | refine zE ?_ _ | refine zI ?_ | refine zD ?_ _)); exact BK314.out) hb)
   have n2_ := zC.mk (zL (by repeat (first | (with_reducible first | exact HB.out | apply zG | apply zA | apply zF | refine zH ?_ GE313.out | refine zH ?_ GE314.out) | exact HB.out)) hb)
   clear BK313
   clear BK314
   clear HB
   have BK313 := n0_
   have BK314 := n1_
   have HB := n2_
   clear n0_ n1_ n2_
   (try clear hb)
   refine hK.out _ _ ⟨zB BK313.out 0, zB BK313.out 1, zB BK313.out 2, zB BK313.out 3, zB BK313.out 4, zB BK314.out 0, zB BK314.out 1, ((HB.out.cell (World.block_lt_of_cell? w _ hw318_0)).trans hw318_0)⟩ (fun hHeld => ?_)
   clear hK K
   refine yA (a' := ?_) ?_ ?_
   rotate_left
   ·
    show Act.put _ (some 12) _ = _
    go_simp
    rfl
   refine one_ (i := 8) (N := some 13) #[true, true, true, true, true, true, true, true, true, false, false, false] rfl rfl (yB HT_.out (by kernel_rfl)) (by decide) (fun K hK => ?_)
   refine yD Try.func194 (by kernel_rfl) rfl #[.agg #[.int .i64 a0_1, .int .i64 a0_2, .int .i64 a0_3], .agg #[.int .i64 t315, .int .i64 t316]] (by rfl) rfl rfl (by (try simp only [List.map_toArray, List.map_cons, List.map_nil]); first | done | rfl) ?_
   with_reducible refine (wB.calls a0_1 a0_2 a0_3 t315 t316 t317 _ A4.out).mono ?_
   rintro e w11 ⟨rfl, hb⟩
   refine ⟨_, rfl, ?_⟩
   have n0_ := zC.mk (zK (g := gb313) (o := .cells #[.int .i64 a0_0, .int .i64 a0_1, .int .i64 a0_2, .int .i64 a0_3, .slice (some ad318) l0_4.length c0_4] 32 (0, 0)) (by (with_reducible repeat (first | refine zE ?_ _ | refine zI ?_ | refine zD ?_ _)); exact BK313.out) hb)
   have n1_ := zC.mk (zK (g := gb314) (o := .cells #[.int .i64 a1_0, .int .i64 a1_1] 50 (0, 0)) (by (with_reducible repeat (first | refine zE ?_ _ | refine zI ?_ | refine zD ?_ _)); exact BK314.out) hb)
   have n2_ := zC.mk (zL (by repeat (first | (with_reducible first | exact HB.out | apply zG | apply zA | apply zF | refine zH ?_ GE313.out | refine zH ?_ GE314.out) | exact HB.out)) hb)
   clear BK313
   clear BK314
   clear HB
   have BK313 := n0_
   have BK314 := n1_
   have HB := n2_
   clear n0_ n1_ n2_
   (try clear hb)
   refine hK.out _ _ ⟨zB BK313.out 0, zB BK313.out 1, zB BK313.out 2, zB BK313.out 3, zB BK313.out 4, zB BK314.out 0, zB BK314.out 1, ((HB.out.cell (World.block_lt_of_cell? w _ hw318_0)).trans hw318_0)⟩ (fun hHeld => ?_)
   clear hK K
   refine yA (a' := ?_) ?_ ?_
   rotate_left
   ·
    show Act.put _ (some 13) _ = _
    go_simp
    rfl
   refine zR (i := 9) (N := some 14) (v := ?_) (a' := ?_) #[true, true, true, true, true, true, true, true, true, true, false, false] rfl rfl (zN HT_.out (by kernel_rfl)) (fun _ _ _ h => h) (Or.inl ⟨by rfl, ?_⟩) ?_ ?_
   rotate_left
   ·
    intro w'
    go_simp
    with_reducible rfl
   rotate_left
   ·
    go_simp
    rfl
   refine yC (i := 10) (N := some 15) (v := ?_) (a' := ?_) #[true, true, true, true, true, true, true, true, true, true, true, false] rfl rfl (zW HT_.out HW_.out (by kernel_rfl)) (fun _ _ _ h => h) (Or.inl ⟨by rfl, ?_⟩) hHeld ?_ ?_
   rotate_left
   ·
    rintro w' ⟨s0, s1, s2, s3, s4, s5, s6, s7⟩
    go_simp
    with_reducible rfl
   rotate_left
   ·
    go_simp
    rfl
   refine zR (i := 11) (N := some 4) (v := ?_) (a' := ?_) #[true, true, true, true, true, true, true, true, true, true, true, true] rfl rfl (zN HT_.out (by kernel_rfl)) (fun _ _ _ h => h) (Or.inl ⟨by rfl, ?_⟩) ?_ ?_
   rotate_left
   ·
    intro w'
    go_simp
    with_reducible rfl
   rotate_left
   ·
    go_simp
    rfl
   refine done_ (done_of HT_.out (by kernel_rfl)) ?_
   try go_wp2
   go_ret
   exact ⟨by first | rfl | (simp [*, errW_none, errW_some] <;> rfl), by repeat (first | (with_reducible first | exact HB.out | apply zG | apply zA | apply zF | refine zH ?_ GE313.out | refine zH ?_ GE314.out) | exact HB.out)⟩
  ·
   rw [if_neg c6] at H
   exact absurd H (by simp)
 ·
  rw [if_neg c5] at H
  exact absurd H (by simp)
def yM.T4 : Bool × List (List Nat × List Nat) := (true, [([], []), ([], []), ([], []), ([1, 2], [1, 2]), ([0, 3, 3], [0, 3]), ([], []), ([5], [5]), ([], []), ([6, 7], [6, 7]), ([8], [8]), ([4, 9], [4, 9])])
def yM.B4 : List Nat := [0, 0, 0, 6, 15, 0, 32, 0, 224, 480, 1023]
theorem yM.tab4 : rtab .any (opsOf Try.f167 4) = yM.T4 := by kernel_rfl
theorem yM.bits4 : waitsOk yM.T4.2 yM.B4 = true := by kernel_rfl
theorem yM.calls (k : Nat) (a0_0 : Int) (a0_1 : Int) (a0_2 : Int) (a0_3 : Int) (A0_4 : Option Addr) (c0_4 : Nat) (l0_4 : List Int) (a1_0 : Int) (a1_1 : Int) (a1_2 : Int) (a1_3 : Int) (a1_4 : Int) (a1_5 : Int) (r : Bool) (w : World) (hr0_4 : Kd.C (Kd.int .i64) w A0_4 l0_4.length l0_4) (hc0_4 : l0_4.length ≤ c0_4) (h : yM.f k a0_0 a0_1 a0_2 a0_3 l0_4 a1_0 a1_1 a1_2 a1_3 a1_4 a1_5 = some r) :
  Calls Try.prog 167 #[.agg #[.int .i64 a0_0, .int .i64 a0_1, .int .i64 a0_2, .int .i64 a0_3, .slice A0_4 l0_4.length c0_4], .agg #[.int .i64 a1_0, .int .i64 a1_1, .int .i64 a1_2, .int .i64 a1_3, .int .i64 a1_4, .int .i64 a1_5]] w fun e w' => e = .returned (.bool r) ∧ Below w.heap.size w w' := by
 have hu32 := Try.underlying32
 have hu52 := Try.underlying52
 have hu30 := Try.underlying30
 have hu50 := Try.underlying50
 have HR0_4 := zC.mk hr0_4
 have HC0_4 := zC.mk hc0_4
 clear hr0_4 hc0_4
 have HB := zC.mk (Below.refl w.heap.size w)
 have H : ((yG.f k a0_1 a0_2 a0_3).bind fun t321 => (yM.l0 k t321 (t321.length : Int) 0 a0_0 a0_1 a0_2 a0_3 l0_4 a1_0 a1_1 a1_2 a1_3 a1_4 a1_5)) = some r := h
 clear h
 replace H := Option.bind_eq_some_iff.mp H
 obtain ⟨t321, A30, H⟩ := H
 replace H : (yM.l0 k t321 (t321.length : Int) 0 a0_0 a0_1 a0_2 a0_3 l0_4 a1_0 a1_1 a1_2 a1_3 a1_4 a1_5) = some r := H
 have A3 := zC.mk A30
 clear A30
 have H' := zC.mk H
 clear H
 go_enter Try.func167, Try.ntmps167
 go_wp2_with (first | ((with_reducible refine zQ (N := 2) rfl ?_); refine zO ?hg (N := 2) ?hd (cs := #[.int .i64 a0_0, .int .i64 a0_1, .int .i64 a0_2, .int .i64 a0_3, .slice A0_4 l0_4.length c0_4]) (t := 32) ?hr ?_; (case hd => rfl); (case hg => rfl); (case hr => first | (go_simp; done) | (go_simp; rfl)); intro gb319 hg w4 hbox hb; have n0_ := zC.mk (zL (by repeat (first | (with_reducible first | exact HB.out | apply zG | apply zA | apply zF) | exact HB.out)) hb); have n1_ := zC.mk (hbox); have n2_ := zC.mk ((by rw [hg]; exact (zM (by repeat (first | (with_reducible first | exact HB.out | apply zG | apply zA | apply zF) | exact HB.out))) : w.heap.size ≤ gb319)); have n3_ := n2_; clear HB; have HB := n0_; have BK319 := n1_; have GW319 := n2_; have GE319 := n3_; clear n0_ n1_ n2_ n3_; clear hb hbox hg) | ((with_reducible refine zQ (N := 3) rfl ?_); refine zO ?hg (N := 3) ?hd (cs := #[.int .i64 a1_0, .int .i64 a1_1, .int .i64 a1_2, .int .i64 a1_3, .int .i64 a1_4, .int .i64 a1_5]) (t := 52) ?hr ?_; (case hd => rfl); (case hg => rfl); (case hr => first | (go_simp; done) | (go_simp; rfl)); intro gb320 hg w5 hbox hb; have n0_ := zC.mk (zK (g := gb319) (o := .cells #[.int .i64 a0_0, .int .i64 a0_1, .int .i64 a0_2, .int .i64 a0_3, .slice A0_4 l0_4.length c0_4] 32 (0, 0)) (by (with_reducible repeat (first | refine zE ?_ _ | refine zI ?_ | refine zD ?_ _)); exact BK319.out) hb); have n1_ := zC.mk (zL (by repeat (first | (with_reducible first | exact HB.out | apply zG | apply zA | apply zF | refine zH ?_ GE319.out) | exact HB.out)) hb); have n2_ := zC.mk (hbox); have n3_ := zC.mk ((by rw [hg]; exact (zM (by repeat (first | (with_reducible first | exact HB.out | apply zG | apply zA | apply zF | refine zH ?_ GE319.out) | exact HB.out))) : w.heap.size ≤ gb320)); have n4_ := n3_; have n5_ := zC.mk ((by rw [hg]; exact Nat.ne_of_lt (zV (by (with_reducible repeat (first | refine zE ?_ _ | refine zI ?_ | refine zD ?_ _)); exact BK319.out)) : gb319 ≠ gb320)); have n6_ := zC.mk n5_.out.symm; clear BK319; clear HB; have BK319 := n0_; have HB := n1_; have BK320 := n2_; have GW320 := n3_; have GE320 := n4_; have NB319_320 := n5_; have NB320_319 := n6_; clear n0_ n1_ n2_ n3_ n4_ n5_ n6_; clear hb hbox hg; have hnb6 := NB319_320.out; have hnc6 := NB320_319.out; have hcz7_0 : w5.cell? ⟨gb319, 0, none⟩ = some (.int .i64 a0_0) := zB BK319.out 0; have hcz7_1 : w5.cell? ⟨gb319, 1, none⟩ = some (.int .i64 a0_1) := zB BK319.out 1; have hcz7_2 : w5.cell? ⟨gb319, 2, none⟩ = some (.int .i64 a0_2) := zB BK319.out 2; have hcz7_3 : w5.cell? ⟨gb319, 3, none⟩ = some (.int .i64 a0_3) := zB BK319.out 3; have hcz7_4 : w5.cell? ⟨gb319, 4, none⟩ = some (.slice A0_4 l0_4.length c0_4) := zB BK319.out 4; have hfz7_0 := zJ BK319.out 0; have hfz7_1 := zJ BK319.out 1; have hfz7_2 := zJ BK319.out 2; have hfz7_3 := zJ BK319.out 3; have hfz7_4 := zJ BK319.out 4) | ((with_reducible refine zP (f := 68) rfl ?_); refine zX (some 9) rfl rfl Try.func68 (by kernel_rfl) rfl #[.agg #[.int .i64 a0_1, .int .i64 a0_2, .int .i64 a0_3]] rfl (by (try simp only [List.map_toArray, List.map_cons, List.map_nil]); first | done | rfl) ?_; (with_reducible refine (yG.calls k a0_1 a0_2 a0_3 t321 _ A3.out).mono ?_); rintro e w8 ⟨v322, rfl, ho0, hb⟩; refine ⟨_, rfl, ?_⟩; have n0_ := zC.mk (Kd.R_lower ho0 (zM (by repeat (first | (with_reducible first | exact HB.out | apply zG | apply zA | apply zF | refine zH ?_ GE319.out | refine zH ?_ GE320.out) | exact HB.out)))); have n1_ := zC.mk (zK (g := gb319) (o := .cells #[.int .i64 a0_0, .int .i64 a0_1, .int .i64 a0_2, .int .i64 a0_3, .slice A0_4 l0_4.length c0_4] 32 (0, 0)) (by (with_reducible repeat (first | refine zE ?_ _ | refine zI ?_ | refine zD ?_ _)); exact BK319.out) hb); have n2_ := zC.mk (zK (g := gb320) (o := .cells #[.int .i64 a1_0, .int .i64 a1_1, .int .i64 a1_2, .int .i64 a1_3, .int .i64 a1_4, .int .i64 a1_5] 52 (0, 0)) (by (with_reducible repeat (first | refine zE ?_ _ | refine zI ?_ | refine zD ?_ _)); exact BK320.out) hb); have n3_ := zC.mk (zL (by repeat (first | (with_reducible first | exact HB.out | apply zG | apply zA | apply zF | refine zH ?_ GE319.out | refine zH ?_ GE320.out) | exact HB.out)) hb); clear BK319; clear BK320; clear HB; have HO323 := n0_; have BK319 := n1_; have BK320 := n2_; have HB := n3_; clear n0_ n1_ n2_ n3_; (try clear hb); (try clear ho0); obtain ⟨Ao9, co9, eo9⟩ := Kd.R_slice HO323.out; subst eo9))
 go_loopg [11] k (fun kq v11 w' => ∃ (x11_1 : Int), v11 = .int .i64 x11_1 ∧ zC (yM.l0 kq t321 (t321.length : Int) x11_1 a0_0 a0_1 a0_2 a0_3 l0_4 a1_0 a1_1 a1_2 a1_3 a1_4 a1_5 = some r) ∧ zC (kq ≤ k) ∧ zC (Kd.R k50 50 w' w.heap.size (fun _ => True) (.slice Ao9 t321.length co9) t321) ∧ zC (w'.heap[gb319]? = some (.cells #[.int .i64 a0_0, .int .i64 a0_1, .int .i64 a0_2, .int .i64 a0_3, (.slice A0_4 l0_4.length c0_4)] 32 (0, 0))) ∧ zC (w'.heap[gb320]? = some (.cells #[.int .i64 a1_0, .int .i64 a1_1, .int .i64 a1_2, .int .i64 a1_3, .int .i64 a1_4, .int .i64 a1_5] 52 (0, 0))) ∧ zC (Below w.heap.size w w'))
 case atStart => exact ⟨(0), (by first | rfl | (simp; done) | (simp [*]; done)), H', ⟨Nat.le_refl _⟩, ⟨by (with_reducible repeat (first | apply Kd.R_alloc | apply Kd.R_drewN | apply Kd.R_drew)); exact HO323.out⟩, ⟨by (with_reducible repeat (first | refine zE ?_ _ | refine zI ?_ | refine zD ?_ _)); exact BK319.out⟩, ⟨by (with_reducible repeat (first | refine zE ?_ _ | refine zI ?_ | refine zD ?_ _)); exact BK320.out⟩, ⟨by repeat (first | (with_reducible first | exact HB.out | apply zG | apply zA | apply zF | refine zH ?_ GE319.out | refine zH ?_ GE320.out) | exact HB.out)⟩⟩
 case round =>
  clear H'
  try clear c1
  try clear p2
  try clear c6
  try clear hcz7_0
  try clear hcz7_1
  try clear hcz7_2
  try clear hcz7_3
  try clear hcz7_4
  try clear hfz7_0
  try clear hfz7_1
  try clear hfz7_2
  try clear hfz7_3
  try clear hfz7_4
  obtain ⟨x11_1, rfl, HA, HK1, HO_9, BK319, BK320, HB⟩ := hrel
  cases gk with
  | zero => exact absurd HA.out (by simp [yM.l0])
  | succ k1 =>
   have H := HA.out
   clear HA
   simp only [yM.l0] at H
   by_cases c10 : x11_1 < (t321.length : Int)
   ·
    rw [if_pos c10] at H
    have c10b0 : decide (x11_1 < (t321.length : Int)) = true := decide_eq_true c10
    clear c10
    by_cases c11 : 0 ≤ x11_1
    ·
     rw [if_pos c11] at H
     have c11b0 : decide (0 ≤ x11_1) = true := decide_eq_true c11
     clear c11
     by_cases c12 : x11_1 < (t321.length : Int)
     ·
      rw [if_pos c12] at H
      have c12b0 : decide (x11_1 < (t321.length : Int)) = true := decide_eq_true c12
      clear c12
      replace H := Option.bind_eq_some_iff.mp H
      obtain ⟨⟨t326, t327⟩, A130, H⟩ := H
      replace H : ((xT.f a0_0 a0_1 a0_2 a0_3 l0_4 t326 t327).bind fun t328 => (if x11_1 < (l0_4.length : Int) then (if t328 = (rd l0_4 x11_1) then (yM.l0 k1 t321 (t321.length : Int) (wrap64 (x11_1 + 1)) a0_0 a0_1 a0_2 a0_3 l0_4 a1_0 a1_1 a1_2 a1_3 a1_4 a1_5) else (some false)) else (none))) = some r := H
      have A13 := zC.mk A130
      clear A130
      replace H := Option.bind_eq_some_iff.mp H
      obtain ⟨t328, A140, H⟩ := H
      replace H : (if x11_1 < (l0_4.length : Int) then (if t328 = (rd l0_4 x11_1) then (yM.l0 k1 t321 (t321.length : Int) (wrap64 (x11_1 + 1)) a0_0 a0_1 a0_2 a0_3 l0_4 a1_0 a1_1 a1_2 a1_3 a1_4 a1_5) else (some false)) else (none)) = some r := H
      have A14 := zC.mk A140
      clear A140
      by_cases c15 : x11_1 < (l0_4.length : Int)
      ·
       rw [if_pos c15] at H
       have c15b0 : decide (x11_1 < (l0_4.length : Int)) = true := decide_eq_true c15
       clear c15
       by_cases c16 : t328 = (rd l0_4 x11_1)
       ·
        rw [if_pos c16] at H
        have c16b0 : (t328 == (rd l0_4 x11_1)) = true := beq_iff_eq.mpr c16
        have c16b1 : (t328 != (rd l0_4 x11_1)) = false := bne_eq_false_iff_eq.mpr c16
        clear c16
        have H' := zC.mk H
        clear H
        have p324 : 0 ≤ (x11_1 : Int) := of_decide_eq_true (by first | (with_reducible assumption) | assumption)
        have q324 : x11_1 < (t321.length : Int) := of_decide_eq_true (by first | (with_reducible assumption) | assumption)
        obtain ⟨ad324, e324, hx324_0, hx324_1⟩ := at_T50 (Kd.R_reads' HO_9.out).2.2 x11_1 p324 q324
        cases e324
        replace p324 := eq_true p324
        replace q324 := eq_true q324
        try go_wp2_with (first | ((with_reducible refine zQ (N := 6) rfl ?_); refine zO ?hg (N := 6) ?hd (cs := #[.int .i64 0, .int .i64 0]) (t := 50) ?hr ?_; (case hd => rfl); (case hg => rfl); (case hr => first | (go_simp; done) | (go_simp; rfl)); intro gb325 hg w17 hbox hb; have n0_ := zC.mk (Kd.R_below (Kd.R_elderB (by (with_reducible repeat (first | apply Kd.R_alloc | apply Kd.R_drewN | apply Kd.R_drew)); exact HO_9.out) gb325 (Nat.le_of_eq hg.symm)) hb); have n1_ := zC.mk (zK (g := gb319) (o := .cells #[.int .i64 a0_0, .int .i64 a0_1, .int .i64 a0_2, .int .i64 a0_3, .slice A0_4 l0_4.length c0_4] 32 (0, 0)) (by (with_reducible repeat (first | refine zE ?_ _ | refine zI ?_ | refine zD ?_ _)); exact BK319.out) hb); have n2_ := zC.mk (zK (g := gb320) (o := .cells #[.int .i64 a1_0, .int .i64 a1_1, .int .i64 a1_2, .int .i64 a1_3, .int .i64 a1_4, .int .i64 a1_5] 52 (0, 0)) (by (with_reducible repeat (first | refine zE ?_ _ | refine zI ?_ | refine zD ?_ _)); exact BK320.out) hb); have n3_ := zC.mk (zL (by repeat (first | (with_reducible first | exact HB.out | apply zG | apply zA | apply zF | refine zH ?_ GE319.out | refine zH ?_ GE320.out) | exact HB.out)) hb); have n4_ := zC.mk (hbox); have n5_ := zC.mk ((by rw [hg]; exact (zM (by repeat (first | (with_reducible first | exact HB.out | apply zG | apply zA | apply zF | refine zH ?_ GE319.out | refine zH ?_ GE320.out) | exact HB.out))) : w.heap.size ≤ gb325)); have n6_ := n5_; have n7_ := zC.mk ((by rw [hg]; exact Nat.ne_of_lt (zV (by (with_reducible repeat (first | refine zE ?_ _ | refine zI ?_ | refine zD ?_ _)); exact BK319.out)) : gb319 ≠ gb325)); have n8_ := zC.mk n7_.out.symm; have n9_ := zC.mk ((by rw [hg]; exact Nat.ne_of_lt (zV (by (with_reducible repeat (first | refine zE ?_ _ | refine zI ?_ | refine zD ?_ _)); exact BK320.out)) : gb320 ≠ gb325)); have n10_ := zC.mk n9_.out.symm; clear HO_9; clear BK319; clear BK320; clear HB; have HO_9 := n0_; have BK319 := n1_; have BK320 := n2_; have HB := n3_; have BK325 := n4_; have GW325 := n5_; have GE325 := n6_; have NB319_325 := n7_; have NB325_319 := n8_; have NB320_325 := n9_; have NB325_320 := n10_; clear n0_ n1_ n2_ n3_ n4_ n5_ n6_ n7_ n8_ n9_ n10_; clear hb hbox hg; have hnb18 := NB325_319.out; have hnc18 := NB319_325.out; have hnb19 := NB325_320.out; have hnc19 := NB320_325.out; have hcz20_0 : w17.cell? ⟨gb325, 0, none⟩ = some (.int .i64 0) := zB BK325.out 0; have hcz20_1 : w17.cell? ⟨gb325, 1, none⟩ = some (.int .i64 0) := zB BK325.out 1; have hfz20_0 := zJ BK325.out 0; have hfz20_1 := zJ BK325.out 1))
        have n0_ : zC (Kd.R k50 50 ((w17.setCell ⟨gb325, 0, none⟩ (.int .i64 ((rd_T50 t321 x11_1).f0))).setCell ⟨gb325, 1, none⟩ (.int .i64 ((rd_T50 t321 x11_1).f1))) w.heap.size (fun k_ => k_ ≠ gb325) (.slice (some ad324) t321.length co9) t321) := ⟨by (with_reducible repeat (first | apply Kd.R_alloc | apply Kd.R_drewN | apply Kd.R_drew)); exact Kd.R_mono (Kd.R_far (p := ⟨gb325, 1, none⟩) (Kd.R_far (p := ⟨gb325, 0, none⟩) (Kd.R_mono HO_9.out (fun k_ hk => (⟨hk, hk.2⟩ : _ ∧ k_ ≠ gb325))) (fun _ hk => hk.2) (.int .i64 ((rd_T50 t321 x11_1).f0))) (fun _ hk => hk.2) (.int .i64 ((rd_T50 t321 x11_1).f1))) (fun _ hk => hk.1.2)⟩
        have n1_ : zC (((w17.setCell ⟨gb325, 0, none⟩ (.int .i64 ((rd_T50 t321 x11_1).f0))).setCell ⟨gb325, 1, none⟩ (.int .i64 ((rd_T50 t321 x11_1).f1))).heap[gb319]? = some (.cells #[.int .i64 a0_0, .int .i64 a0_1, .int .i64 a0_2, .int .i64 a0_3, .slice A0_4 l0_4.length c0_4] 32 (0, 0))) := ⟨by (with_reducible repeat (first | refine zE ?_ _ | refine zI ?_ | refine zD ?_ _)); refine zU ?_ NB319_325.out _; (with_reducible repeat (first | refine zE ?_ _ | refine zI ?_ | refine zD ?_ _)); refine zU ?_ NB319_325.out _; (with_reducible repeat (first | refine zE ?_ _ | refine zI ?_ | refine zD ?_ _)); exact BK319.out⟩
        have n2_ : zC (((w17.setCell ⟨gb325, 0, none⟩ (.int .i64 ((rd_T50 t321 x11_1).f0))).setCell ⟨gb325, 1, none⟩ (.int .i64 ((rd_T50 t321 x11_1).f1))).heap[gb320]? = some (.cells #[.int .i64 a1_0, .int .i64 a1_1, .int .i64 a1_2, .int .i64 a1_3, .int .i64 a1_4, .int .i64 a1_5] 52 (0, 0))) := ⟨by (with_reducible repeat (first | refine zE ?_ _ | refine zI ?_ | refine zD ?_ _)); refine zU ?_ NB320_325.out _; (with_reducible repeat (first | refine zE ?_ _ | refine zI ?_ | refine zD ?_ _)); refine zU ?_ NB320_325.out _; (with_reducible repeat (first | refine zE ?_ _ | refine zI ?_ | refine zD ?_ _)); exact BK320.out⟩
        have n3_ : zC (((w17.setCell ⟨gb325, 0, none⟩ (.int .i64 ((rd_T50 t321 x11_1).f0))).setCell ⟨gb325, 1, none⟩ (.int .i64 ((rd_T50 t321 x11_1).f1))).heap[gb325]? = some (.cells #[.int .i64 ((rd_T50 t321 x11_1).f0), .int .i64 ((rd_T50 t321 x11_1).f1)] 50 (0, 0))) := ⟨by (with_reducible repeat (first | refine zE ?_ _ | refine zI ?_ | refine zD ?_ _)); refine zS (cs := #[.int .i64 ((rd_T50 t321 x11_1).f0), .int .i64 0]) ?_ 1 _ rfl; (with_reducible repeat (first | refine zE ?_ _ | refine zI ?_ | refine zD ?_ _)); refine zS (cs := #[.int .i64 0, .int .i64 0]) ?_ 0 _ rfl; (with_reducible repeat (first | refine zE ?_ _ | refine zI ?_ | refine zD ?_ _)); exact BK325.out⟩
        have n4_ : zC (Below w.heap.size w ((w17.setCell ⟨gb325, 0, none⟩ (.int .i64 ((rd_T50 t321 x11_1).f0))).setCell ⟨gb325, 1, none⟩ (.int .i64 ((rd_T50 t321 x11_1).f1)))) := ⟨by repeat (first | (with_reducible first | exact HB.out | apply zG | apply zA | apply zF | refine zH ?_ GE319.out | refine zH ?_ GE320.out | refine zH ?_ GE325.out) | exact HB.out)⟩
        (try clear HO_9)
        (try clear BK319)
        (try clear BK320)
        (try clear BK325)
        (try clear HB)
        generalize ((w17.setCell ⟨gb325, 0, none⟩ (.int .i64 ((rd_T50 t321 x11_1).f0))).setCell ⟨gb325, 1, none⟩ (.int .i64 ((rd_T50 t321 x11_1).f1))) = w21 at n0_ n1_ n2_ n3_ n4_ ⊢
        have HO_9 := n0_
        have BK319 := n1_
        have BK320 := n2_
        have BK325 := n3_
        have HB := n4_
        clear n0_ n1_ n2_ n3_ n4_
        have n0_ := zC.mk (Kd.R_drew HO_9.out)
        have n1_ := zC.mk (zI BK319.out)
        have n2_ := zC.mk (zI BK320.out)
        have n3_ := zC.mk (zI BK325.out)
        have n4_ := zC.mk (zF HB.out)
        clear HO_9
        clear BK319
        clear BK320
        clear BK325
        clear HB
        have HO_9 := n0_
        have BK319 := n1_
        have BK320 := n2_
        have BK325 := n3_
        have HB := n4_
        clear n0_ n1_ n2_ n3_ n4_
        have p329 : 0 ≤ (x11_1 : Int) := of_decide_eq_true (by first | (with_reducible assumption) | assumption)
        have q329 : x11_1 < (l0_4.length : Int) := of_decide_eq_true (by first | (with_reducible assumption) | assumption)
        obtain ⟨ad329, e329, hx329_0⟩ := Kd.at_int HR0_4.out x11_1 p329 q329
        have hw329_0 := hx329_0
        cases e329
        replace hx329_0 := (HB.out.cell (World.block_lt_of_cell? w _ hx329_0)).trans hx329_0
        replace p329 := eq_true p329
        replace q329 := eq_true q329
        refine start_ (n := 11) (S := fun w' => w'.cell? ⟨gb319, 0, none⟩ = some (.int .i64 a0_0) ∧ w'.cell? ⟨gb319, 1, none⟩ = some (.int .i64 a0_1) ∧ w'.cell? ⟨gb319, 2, none⟩ = some (.int .i64 a0_2) ∧ w'.cell? ⟨gb319, 3, none⟩ = some (.int .i64 a0_3) ∧ w'.cell? ⟨gb319, 4, none⟩ = some (.slice (some ad329) l0_4.length c0_4) ∧ w'.cell? ⟨gb320, 0, none⟩ = some (.int .i64 a1_0) ∧ w'.cell? ⟨gb320, 1, none⟩ = some (.int .i64 a1_1) ∧ w'.cell? ⟨gb320, 2, none⟩ = some (.int .i64 a1_2) ∧ w'.cell? ⟨gb320, 3, none⟩ = some (.int .i64 a1_3) ∧ w'.cell? ⟨gb320, 4, none⟩ = some (.int .i64 a1_4) ∧ w'.cell? ⟨gb320, 5, none⟩ = some (.int .i64 a1_5) ∧ w'.cell? ⟨gb325, 0, none⟩ = some (.int .i64 ((rd_T50 t321 x11_1).f0)) ∧ w'.cell? ⟨gb325, 1, none⟩ = some (.int .i64 ((rd_T50 t321 x11_1).f1)) ∧ w'.cell? (ad329.add (x11_1).toNat) = some (.int .i64 (rd l0_4 x11_1))) (ds := []) #[false, false, false, false, false, false, false, false, false, false, false] (by kernel_rfl) rfl rfl ⟨zB BK319.out 0, zB BK319.out 1, zB BK319.out 2, zB BK319.out 3, zB BK319.out 4, zB BK320.out 0, zB BK320.out 1, zB BK320.out 2, zB BK320.out 3, zB BK320.out 4, zB BK320.out 5, zB BK325.out 0, zB BK325.out 1, ((HB.out.cell (World.block_lt_of_cell? w _ hw329_0)).trans hw329_0)⟩ (fun hHeld => ?_); refine yE yM.tab4 yM.bits4 (fun HT_ HW_ => ?_)
        generalize w21.drew = w22 at HO_9 BK319 BK320 BK325 HB hx329_0 hHeld ⊢
        refine zR (i := 5) (N := some 21) (v := ?_) (a' := ?_) #[false, false, false, false, false, true, false, false, false, false, false] rfl rfl (zN HT_.out (by kernel_rfl)) (fun _ _ _ h => h) (Or.inl ⟨by rfl, ?_⟩) ?_ ?_
        rotate_left
        ·
         intro w'
         go_simp
         with_reducible rfl
        rotate_left
        ·
         simp only [Act.put, List.setIfInBounds_toArray, List.set_cons_zero, List.set_cons_succ, zY, zZ]
         rfl
        refine zR (i := 7) (N := some 23) (v := ?_) (a' := ?_) #[false, false, false, false, false, true, false, true, false, false, false] rfl rfl (zN HT_.out (by kernel_rfl)) (fun _ _ _ h => h) (Or.inl ⟨by rfl, ?_⟩) ?_ ?_
        rotate_left
        ·
         intro w'
         go_simp
         with_reducible rfl
        rotate_left
        ·
         simp only [Act.put, List.setIfInBounds_toArray, List.set_cons_zero, List.set_cons_succ, zY, zZ]
         rfl
        refine yC (i := 0) (N := some 16) (v := ?_) (a' := ?_) #[true, false, false, false, false, true, false, true, false, false, false] rfl rfl (zW HT_.out HW_.out (by kernel_rfl)) (fun _ _ _ h => h) (Or.inl ⟨by rfl, ?_⟩) hHeld ?_ ?_
        rotate_left
        ·
         rintro w' ⟨s0, s1, s2, s3, s4, s5, s6, s7, s8, s9, s10, s11, s12, s13⟩
         go_simp
         with_reducible rfl
        rotate_left
        ·
         simp only [Act.put, List.setIfInBounds_toArray, List.set_cons_zero, List.set_cons_succ, zY, zZ]
         rfl
        refine yC (i := 1) (N := some 17) (v := ?_) (a' := ?_) #[true, true, false, false, false, true, false, true, false, false, false] rfl rfl (zW HT_.out HW_.out (by kernel_rfl)) (fun _ _ _ h => h) (Or.inl ⟨by rfl, ?_⟩) hHeld ?_ ?_
        rotate_left
        ·
         rintro w' ⟨s0, s1, s2, s3, s4, s5, s6, s7, s8, s9, s10, s11, s12, s13⟩
         go_simp
         with_reducible rfl
        rotate_left
        ·
         simp only [Act.put, List.setIfInBounds_toArray, List.set_cons_zero, List.set_cons_succ, zY, zZ]
         rfl
        refine yC (i := 2) (N := some 18) (v := ?_) (a' := ?_) #[true, true, true, false, false, true, false, true, false, false, false] rfl rfl (zW HT_.out HW_.out (by kernel_rfl)) (fun _ _ _ h => h) (Or.inl ⟨by rfl, ?_⟩) hHeld ?_ ?_
        rotate_left
        ·
         rintro w' ⟨s0, s1, s2, s3, s4, s5, s6, s7, s8, s9, s10, s11, s12, s13⟩
         go_simp
         with_reducible rfl
        rotate_left
        ·
         simp only [Act.put, List.setIfInBounds_toArray, List.set_cons_zero, List.set_cons_succ, zY, zZ]
         rfl
        refine yC (i := 6) (N := some 22) (v := ?_) (a' := ?_) #[true, true, true, false, false, true, true, true, false, false, false] rfl rfl (zW HT_.out HW_.out (by kernel_rfl)) (fun _ _ _ h => h) (Or.inl ⟨by rfl, ?_⟩) hHeld ?_ ?_
        rotate_left
        ·
         rintro w' ⟨s0, s1, s2, s3, s4, s5, s6, s7, s8, s9, s10, s11, s12, s13⟩
         go_simp
         with_reducible rfl
        rotate_left
        ·
         simp only [Act.put, List.setIfInBounds_toArray, List.set_cons_zero, List.set_cons_succ, zY, zZ]
         rfl
        refine zR (i := 8) (N := some 24) (v := ?_) (a' := ?_) #[true, true, true, false, false, true, true, true, true, false, false] rfl rfl (zN HT_.out (by kernel_rfl)) (fun _ _ _ h => h) (Or.inl ⟨by rfl, ?_⟩) ?_ ?_
        rotate_left
        ·
         intro w'
         go_simp
         with_reducible rfl
        rotate_left
        ·
         simp only [Act.put, List.setIfInBounds_toArray, List.set_cons_zero, List.set_cons_succ, zY, zZ]
         rfl
        refine yC (i := 9) (N := some 25) (v := ?_) (a' := ?_) #[true, true, true, false, false, true, true, true, true, true, false] rfl rfl (zW HT_.out HW_.out (by kernel_rfl)) (fun _ _ _ h => h) (Or.inl ⟨by rfl, ?_⟩) hHeld ?_ ?_
        rotate_left
        ·
         rintro w' ⟨s0, s1, s2, s3, s4, s5, s6, s7, s8, s9, s10, s11, s12, s13⟩
         go_simp
         with_reducible rfl
        rotate_left
        ·
         simp only [Act.put, List.setIfInBounds_toArray, List.set_cons_zero, List.set_cons_succ, zY, zZ]
         rfl
        refine one_ (i := 3) (N := some 19) #[true, true, true, true, false, true, true, true, true, true, false] rfl rfl (yB HT_.out (by kernel_rfl)) (by decide) (fun K hK => ?_)
        refine yD Try.func111 (by kernel_rfl) rfl #[.agg #[.int .i64 a1_0, .int .i64 a1_1, .int .i64 a1_2, .int .i64 a1_3, .int .i64 a1_4, .int .i64 a1_5], .agg #[.int .i64 ((rd_T50 t321 x11_1).f0), .int .i64 ((rd_T50 t321 x11_1).f1)]] (by rfl) rfl rfl (by (try simp only [List.map_toArray, List.map_cons, List.map_nil]); first | done | rfl) ?_
        with_reducible refine (xS.calls a1_0 a1_1 a1_2 a1_3 a1_4 a1_5 ((rd_T50 t321 x11_1).f0) ((rd_T50 t321 x11_1).f1) t326 t327 _ A13.out).mono ?_
        rintro e w23 ⟨rfl, hb⟩
        refine ⟨_, rfl, ?_⟩
        have n0_ := zC.mk (Kd.R_below (by (with_reducible repeat (first | apply Kd.R_alloc | apply Kd.R_drewN | apply Kd.R_drew)); exact HO_9.out) hb)
        have n1_ := zC.mk (zK (g := gb319) (o := .cells #[.int .i64 a0_0, .int .i64 a0_1, .int .i64 a0_2, .int .i64 a0_3, .slice (some ad329) l0_4.length c0_4] 32 (0, 0)) (by (with_reducible repeat (first | refine zE ?_ _ | refine zI ?_ | refine zD ?_ _)); exact BK319.out) hb)
        have n2_ := zC.mk (zK (g := gb320) (o := .cells #[.int .i64 a1_0, .int .i64 a1_1, .int .i64 a1_2, .int .i64 a1_3, .int .i64 a1_4, .int .i64 a1_5] 52 (0, 0)) (by (with_reducible repeat (first | refine zE ?_ _ | refine zI ?_ | refine zD ?_ _)); exact BK320.out) hb)
        have n3_ := zC.mk (zK (g := gb325) (o := .cells #[.int .i64 ((rd_T50 t321 x11_1).f0), .int .i64 ((rd_T50 t321 x11_1).f1)] 50 (0, 0)) (by (with_reducible repeat (first | refine zE ?_ _ | refine zI ?_ | refine zD ?_ _)); exact BK325.out) hb)
        have n4_ := zC.mk (zL (by repeat (first | (with_reducible first | exact HB.out | apply zG | apply zA | apply zF | refine zH ?_ GE319.out | refine zH ?_ GE320.out | refine zH ?_ GE325.out) | exact HB.out)) hb)
        clear HO_9
        clear BK319
        clear BK320
        clear BK325
        clear HB
        have HO_9 := n0_
        have BK319 := n1_
        have BK320 := n2_
        have BK325 := n3_
        have HB := n4_
        clear n0_ n1_ n2_ n3_ n4_
        (try clear hb)
        refine hK.out _ _ ⟨zB BK319.out 0, zB BK319.out 1, zB BK319.out 2, zB BK319.out 3, zB BK319.out 4, zB BK320.out 0, zB BK320.out 1, zB BK320.out 2, zB BK320.out 3, zB BK320.out 4, zB BK320.out 5, zB BK325.out 0, zB BK325.out 1, ((HB.out.cell (World.block_lt_of_cell? w _ hw329_0)).trans hw329_0)⟩ (fun hHeld => ?_)
        clear hK K
        refine yA (a' := ?_) ?_ ?_
        rotate_left
        ·
         show Act.put _ (some 19) _ = _
         simp only [Act.put, List.setIfInBounds_toArray, List.set_cons_zero, List.set_cons_succ, zY, zZ]
         rfl
        refine one_ (i := 4) (N := some 20) #[true, true, true, true, true, true, true, true, true, true, false] rfl rfl (yB HT_.out (by kernel_rfl)) (by decide) (fun K hK => ?_)
        refine yD Try.func185 (by kernel_rfl) rfl #[.agg #[.int .i64 a0_0, .int .i64 a0_1, .int .i64 a0_2, .int .i64 a0_3, .slice (some ad329) l0_4.length c0_4], .agg #[.int .i64 t326, .int .i64 t327]] (by rfl) rfl rfl (by (try simp only [List.map_toArray, List.map_cons, List.map_nil]); first | done | rfl) ?_
        with_reducible refine (xT.calls a0_0 a0_1 a0_2 a0_3 _ _ l0_4 t326 t327 t328 _ ?side1 ?side2 A14.out).mono ?_
        (case side1 => repeat (first | exact (Kd.C_below HR0_4.out HB.out) | (with_reducible refine Kd.C_alloc ?_ _) | (with_reducible refine Kd.C_drewN ?_ _) | (with_reducible refine Kd.C_drew ?_)))
        (case side2 => exact HC0_4.out)
        rintro e w24 ⟨rfl, hb⟩
        refine ⟨_, rfl, ?_⟩
        have n0_ := zC.mk (Kd.R_below (by (with_reducible repeat (first | apply Kd.R_alloc | apply Kd.R_drewN | apply Kd.R_drew)); exact HO_9.out) hb)
        have n1_ := zC.mk (zK (g := gb319) (o := .cells #[.int .i64 a0_0, .int .i64 a0_1, .int .i64 a0_2, .int .i64 a0_3, .slice (some ad329) l0_4.length c0_4] 32 (0, 0)) (by (with_reducible repeat (first | refine zE ?_ _ | refine zI ?_ | refine zD ?_ _)); exact BK319.out) hb)
        have n2_ := zC.mk (zK (g := gb320) (o := .cells #[.int .i64 a1_0, .int .i64 a1_1, .int .i64 a1_2, .int .i64 a1_3, .int .i64 a1_4, .int .i64 a1_5] 52 (0, 0)) (by (with_reducible repeat (first | refine zE ?_ _ | refine zI ?_ | refine zD ?_ _)); exact BK320.out) hb)
        have n3_ := zC.mk (zK (g := gb325) (o := .cells #[.int .i64 ((rd_T50 t321 x11_1).f0), .int .i64 ((rd_T50 t321 x11_1).f1)] 50 (0, 0)) (by (with_reducible repeat (first | refine zE ?_ _ | refine zI ?_ | refine zD ?_ _)); exact BK325.out) hb)
        have n4_ := zC.mk (zL (by repeat (first | (with_reducible first | exact HB.out | apply zG | apply zA | apply zF | refine zH ?_ GE319.out | refine zH ?_ GE320.out | refine zH ?_ GE325.out) | exact HB.out)) hb)
        clear HO_9
        clear BK319
        clear BK320
        clear BK325
        clear HB
        have HO_9 := n0_
        have BK319 := n1_
        have BK320 := n2_
        have BK325 := n3_
        have HB := n4_
        clear n0_ n1_ n2_ n3_ n4_
        (try clear hb)
        refine hK.out _ _ ⟨zB BK319.out 0, zB BK319.out 1, zB BK319.out 2, zB BK319.out 3, zB BK319.out 4, zB BK320.out 0, zB BK320.out 1, zB BK320.out 2, zB BK320.out 3, zB BK320.out 4, zB BK320.out 5, zB BK325.out 0, zB BK325.out 1, ((HB.out.cell (World.block_lt_of_cell? w _ hw329_0)).trans hw329_0)⟩ (fun hHeld => ?_)
        clear hK K
        refine yA (a' := ?_) ?_ ?_
        rotate_left
        ·
         show Act.put _ (some 20) _ = _
         simp only [Act.put, List.setIfInBounds_toArray, List.set_cons_zero, List.set_cons_succ, zY, zZ]
         rfl
        refine zR (i := 10) (N := some 26) (v := ?_) (a' := ?_) #[true, true, true, true, true, true, true, true, true, true, true] rfl rfl (zN HT_.out (by kernel_rfl)) (fun _ _ _ h => h) (Or.inl ⟨by rfl, ?_⟩) ?_ ?_
        rotate_left
        ·
         intro w'
         go_simp
         with_reducible rfl
        rotate_left
        ·
         simp only [Act.put, List.setIfInBounds_toArray, List.set_cons_zero, List.set_cons_succ, zY, zZ]
         rfl
        refine done_ (done_of HT_.out (by kernel_rfl)) ?_
        try go_wp2
        go_roundg k1
        case measure => have := HK1.out; omega
        case rel => exact ⟨(wrap64 (x11_1 + 1)), (by first | rfl | (simp; done) | (simp [*]; done)), H', ⟨by have := HK1.out; omega⟩, ⟨by (with_reducible repeat (first | apply Kd.R_alloc | apply Kd.R_drewN | apply Kd.R_drew)); exact Kd.R_mono HO_9.out (fun _ hk => trivial)⟩, ⟨by (with_reducible repeat (first | refine zE ?_ _ | refine zI ?_ | refine zD ?_ _)); exact BK319.out⟩, ⟨by (with_reducible repeat (first | refine zE ?_ _ | refine zI ?_ | refine zD ?_ _)); exact BK320.out⟩, ⟨by repeat (first | (with_reducible first | exact HB.out | apply zG | apply zA | apply zF | refine zH ?_ GE319.out | refine zH ?_ GE320.out | refine zH ?_ GE325.out) | exact HB.out)⟩⟩
       ·
        rw [if_neg c16] at H
        have c16b0 : (t328 == (rd l0_4 x11_1)) = false := beq_eq_false_iff_ne.mpr c16
        have c16b1 : (t328 != (rd l0_4 x11_1)) = true := bne_iff_ne.mpr c16
        obtain rfl := Option.some.inj H
        have p324 : 0 ≤ (x11_1 : Int) := of_decide_eq_true (by first | (with_reducible assumption) | assumption)
        have q324 : x11_1 < (t321.length : Int) := of_decide_eq_true (by first | (with_reducible assumption) | assumption)
        obtain ⟨ad324, e324, hx324_0, hx324_1⟩ := at_T50 (Kd.R_reads' HO_9.out).2.2 x11_1 p324 q324
        cases e324
        replace p324 := eq_true p324
        replace q324 := eq_true q324
        try go_wp2_with (first | ((with_reducible refine zQ (N := 6) rfl ?_); refine zO ?hg (N := 6) ?hd (cs := #[.int .i64 0, .int .i64 0]) (t := 50) ?hr ?_; (case hd => rfl); (case hg => rfl); (case hr => first | (go_simp; done) | (go_simp; rfl)); intro gb325 hg w25 hbox hb; have n0_ := zC.mk (Kd.R_below (Kd.R_elderB (by (with_reducible repeat (first | apply Kd.R_alloc | apply Kd.R_drewN | apply Kd.R_drew)); exact HO_9.out) gb325 (Nat.le_of_eq hg.symm)) hb); have n1_ := zC.mk (zK (g := gb319) (o := .cells #[.int .i64 a0_0, .int .i64 a0_1, .int .i64 a0_2, .int .i64 a0_3, .slice A0_4 l0_4.length c0_4] 32 (0, 0)) (by (with_reducible repeat (first | refine zE ?_ _ | refine zI ?_ | refine zD ?_ _)); exact BK319.out) hb); have n2_ := zC.mk (zK (g := gb320) (o := .cells #[.int .i64 a1_0, .int .i64 a1_1, .int .i64 a1_2, .int .i64 a1_3, .int .i64 a1_4, .int .i64 a1_5] 52 (0, 0)) (by (with_reducible repeat (first | refine zE ?_ _ | refine zI ?_ | refine zD ?_ _)); exact BK320.out) hb); have n3_ := zC.mk (zL (by repeat (first | (with_reducible first | exact HB.out | apply zG | apply zA | apply zF | refine zH ?_ GE319.out | refine zH ?_ GE320.out) | exact HB.out)) hb); have n4_ := zC.mk (hbox); have n5_ := zC.mk ((by rw [hg]; exact (zM (by repeat (first | (with_reducible first | exact HB.out | apply zG | apply zA | apply zF | refine zH ?_ GE319.out | refine zH ?_ GE320.out) | exact HB.out))) : w.heap.size ≤ gb325)); have n6_ := n5_; have n7_ := zC.mk ((by rw [hg]; exact Nat.ne_of_lt (zV (by (with_reducible repeat (first | refine zE ?_ _ | refine zI ?_ | refine zD ?_ _)); exact BK319.out)) : gb319 ≠ gb325)); have n8_ := zC.mk n7_.out.symm; have n9_ := zC.mk ((by rw [hg]; exact Nat.ne_of_lt (zV (by (with_reducible repeat (first | refine zE ?_ _ | refine zI ?_ | refine zD ?_ _)); exact BK320.out)) : gb320 ≠ gb325)); have n10_ := zC.mk n9_.out.symm; clear HO_9; clear BK319; clear BK320; clear HB; have HO_9 := n0_; have BK319 := n1_; have BK320 := n2_; have HB := n3_; have BK325 := n4_; have GW325 := n5_; have GE325 := n6_; have NB319_325 := n7_; have NB325_319 := n8_; have NB320_325 := n9_; have NB325_320 := n10_; clear n0_ n1_ n2_ n3_ n4_ n5_ n6_ n7_ n8_ n9_ n10_; clear hb hbox hg; have hnb26 := NB325_319.out; have hnc26 := NB319_325.out; have hnb27 := NB325_320.out; have hnc27 := NB320_325.out; have hcz28_0 : w25.cell? ⟨gb325, 0, none⟩ = some (.int .i64 0) := zB BK325.out 0; have hcz28_1 : w25.cell? ⟨gb325, 1, none⟩ = some (.int .i64 0) := zB BK325.out 1; have hfz28_0 := zJ BK325.out 0; have hfz28_1 := zJ BK325.out 1))
        have n0_ : zC (Kd.R k50 50 ((w25.setCell ⟨gb325, 0, none⟩ (.int .i64 ((rd_T50 t321 x11_1).f0))).setCell ⟨gb325, 1, none⟩ (.int .i64 ((rd_T50 t321 x11_1).f1))) w.heap.size (fun k_ => k_ ≠ gb325) (.slice (some ad324) t321.length co9) t321) := ⟨by (with_reducible repeat (first | apply Kd.R_alloc | apply Kd.R_drewN | apply Kd.R_drew)); exact Kd.R_mono (Kd.R_far (p := ⟨gb325, 1, none⟩) (Kd.R_far (p := ⟨gb325, 0, none⟩) (Kd.R_mono HO_9.out (fun k_ hk => (⟨hk, hk.2⟩ : _ ∧ k_ ≠ gb325))) (fun _ hk => hk.2) (.int .i64 ((rd_T50 t321 x11_1).f0))) (fun _ hk => hk.2) (.int .i64 ((rd_T50 t321 x11_1).f1))) (fun _ hk => hk.1.2)⟩
        have n1_ : zC (((w25.setCell ⟨gb325, 0, none⟩ (.int .i64 ((rd_T50 t321 x11_1).f0))).setCell ⟨gb325, 1, none⟩ (.int .i64 ((rd_T50 t321 x11_1).f1))).heap[gb319]? = some (.cells #[.int .i64 a0_0, .int .i64 a0_1, .int .i64 a0_2, .int .i64 a0_3, .slice A0_4 l0_4.length c0_4] 32 (0, 0))) := ⟨by (with_reducible repeat (first | refine zE ?_ _ | refine zI ?_ | refine zD ?_ _)); refine zU ?_ NB319_325.out _; (with_reducible repeat (first | refine zE ?_ _ | refine zI ?_ | refine zD ?_ _)); refine zU ?_ NB319_325.out _; (with_reducible repeat (first | refine zE ?_ _ | refine zI ?_ | refine zD ?_ _)); exact BK319.out⟩
        have n2_ : zC (((w25.setCell ⟨gb325, 0, none⟩ (.int .i64 ((rd_T50 t321 x11_1).f0))).setCell ⟨gb325, 1, none⟩ (.int .i64 ((rd_T50 t321 x11_1).f1))).heap[gb320]? = some (.cells #[.int .i64 a1_0, .int .i64 a1_1, .int .i64 a1_2, .int .i64 a1_3, .int .i64 a1_4, .int .i64 a1_5] 52 (0, 0))) := ⟨by (with_reducible repeat (first | refine zE ?_ _ | refine zI ?_ | refine zD ?_ _)); refine zU ?_ NB320_325.out _; (with_reducible repeat (first | refine zE ?_ _ | refine zI ?_ | refine zD ?_ _)); refine zU ?_ NB320_325.out _; (with_reducible repeat (first | refine zE ?_ _ | refine zI ?_ | refine zD ?_ _)); exact BK320.out⟩
        have n3_ : zC (((w25.setCell ⟨gb325, 0, none⟩ (.int .i64 ((rd_T50 t321 x11_1).f0))).setCell ⟨gb325, 1, none⟩ (.int .i64 ((rd_T50 t321 x11_1).f1))).heap[gb325]? = some (.cells #[.int .i64 ((rd_T50 t321 x11_1).f0), .int .i64 ((rd_T50 t321 x11_1).f1)] 50 (0, 0))) := ⟨by (with_reducible repeat (first | refine zE ?_ _ | refine zI ?_ | refine zD ?_ _)); refine zS (cs := #[.int .i64 ((rd_T50 t321 x11_1).f0), .int .i64 0]) ?_ 1 _ rfl; (with_reducible repeat (first | refine zE ?_ _ | refine zI ?_ | refine zD ?_ _)); refine zS (cs := #[.int .i64 0, .int .i64 0]) ?_ 0 _ rfl; (with_reducible repeat (first | refine zE ?_ _ | refine zI ?_ | refine zD ?_ _)); exact BK325.out⟩
        have n4_ : zC (Below w.heap.size w ((w25.setCell ⟨gb325, 0, none⟩ (.int .i64 ((rd_T50 t321 x11_1).f0))).setCell ⟨gb325, 1, none⟩ (.int .i64 ((rd_T50 t321 x11_1).f1)))) := ⟨by repeat (first | (with_reducible first | exact HB.out | apply zG | apply zA | apply zF | refine zH ?_ GE319.out | refine zH ?_ GE320.out | refine zH ?_ GE325.out) | exact HB.out)⟩
        (try clear HO_9)
        (try clear BK319)
        (try clear BK320)
        (try clear BK325)
        (try clear HB)
        generalize ((w25.setCell ⟨gb325, 0, none⟩ (.int .i64 ((rd_T50 t321 x11_1).f0))).setCell ⟨gb325, 1, none⟩ (.int .i64 ((rd_T50 t321 x11_1).f1))) = w29 at n0_ n1_ n2_ n3_ n4_ ⊢
        have HO_9 := n0_
        have BK319 := n1_
        have BK320 := n2_
        have BK325 := n3_
        have HB := n4_
        clear n0_ n1_ n2_ n3_ n4_
        have n0_ := zC.mk (Kd.R_drew HO_9.out)
        have n1_ := zC.mk (zI BK319.out)
        have n2_ := zC.mk (zI BK320.out)
        have n3_ := zC.mk (zI BK325.out)
        have n4_ := zC.mk (zF HB.out)
        clear HO_9
        clear BK319
        clear BK320
        clear BK325
        clear HB
        have HO_9 := n0_
        have BK319 := n1_
        have BK320 := n2_
        have BK325 := n3_
        have HB := n4_
        clear n0_ n1_ n2_ n3_ n4_
        have p329 : 0 ≤ (x11_1 : Int) := of_decide_eq_true (by first | (with_reducible assumption) | assumption)
        have q329 : x11_1 < (l0_4.length : Int) := of_decide_eq_true (by first | (with_reducible assumption) | assumption)
        obtain ⟨ad329, e329, hx329_0⟩ := Kd.at_int HR0_4.out x11_1 p329 q329
        have hw329_0 := hx329_0
        cases e329
        replace hx329_0 := (HB.out.cell (World.block_lt_of_cell? w _ hx329_0)).trans hx329_0
        replace p329 := eq_true p329
        replace q329 := eq_true q329
        refine start_ (n := 11) (S := fun w' => w'.cell? ⟨gb319, 0, none⟩ = some (.int .i64 a0_0) ∧ w'.cell? ⟨gb319, 1, none⟩ = some (.int .i64 a0_1) ∧ w'.cell? ⟨gb319, 2, none⟩ = some (.int .i64 a0_2) ∧ w'.cell? ⟨gb319, 3, none⟩ = some (.int .i64 a0_3) ∧ w'.cell? ⟨gb319, 4, none⟩ = some (.slice (some ad329) l0_4.length c0_4) ∧ w'.cell? ⟨gb320, 0, none⟩ = some (.int .i64 a1_0) ∧ w'.cell? ⟨gb320, 1, none⟩ = some (.int .i64 a1_1) ∧ w'.cell? ⟨gb320, 2, none⟩ = some (.int .i64 a1_2) ∧ w'.cell? ⟨gb320, 3, none⟩ = some (.int .i64 a1_3) ∧ w'.cell? ⟨gb320, 4, none⟩ = some (.int .i64 a1_4) ∧ w'.cell? ⟨gb320, 5, none⟩ = some (.int .i64 a1_5) ∧ w'.cell? ⟨gb325, 0, none⟩ = some (.int .i64 ((rd_T50 t321 x11_1).f0)) ∧ w'.cell? ⟨gb325, 1, none⟩ = some (.int .i64 ((rd_T50 t321 x11_1).f1)) ∧ w'.cell? (ad329.add (x11_1).toNat) = some (.int .i64 (rd l0_4 x11_1))) (ds := []) #[false, false, false, false, false, false, false, false, false, false, false] (by kernel_rfl) rfl rfl ⟨zB BK319.out 0, zB BK319.out 1, zB BK319.out 2, zB BK319.out 3, zB BK319.out 4, zB BK320.out 0, zB BK320.out 1, zB BK320.out 2, zB BK320.out 3, zB BK320.out 4, zB BK320.out 5, zB BK325.out 0, zB BK325.out 1, ((HB.out.cell (World.block_lt_of_cell? w _ hw329_0)).trans hw329_0)⟩ (fun hHeld => ?_); refine yE yM.tab4 yM.bits4 (fun HT_ HW_ => ?_)
        generalize w29.drew = w30 at HO_9 BK319 BK320 BK325 HB hx329_0 hHeld ⊢
        refine zR (i := 5) (N := some 21) (v := ?_) (a' := ?_) #[false, false, false, false, false, true, false, false, false, false, false] rfl rfl (zN HT_.out (by kernel_rfl)) (fun _ _ _ h => h) (Or.inl ⟨by rfl, ?_⟩) ?_ ?_
        rotate_left
        ·
         intro w'
         go_simp
         with_reducible rfl
        rotate_left
        ·
         simp only [Act.put, List.setIfInBounds_toArray, List.set_cons_zero, List.set_cons_succ, zY, zZ]
         rfl
        refine zR (i := 7) (N := some 23) (v := ?_) (a' := ?_) #[false, false, false, false, false, true, false, true, false, false, false] rfl rfl (zN HT_.out (by kernel_rfl)) (fun _ _ _ h => h) (Or.inl ⟨by rfl, ?_⟩) ?_ ?_
        rotate_left
        ·
         intro w'
         go_simp
         with_reducible rfl
        rotate_left
        ·
         simp only [Act.put, List.setIfInBounds_toArray, List.set_cons_zero, List.set_cons_succ, zY, zZ]
         rfl
        refine yC (i := 0) (N := some 16) (v := ?_) (a' := ?_) #[true, false, false, false, false, true, false, true, false, false, false] rfl rfl (zW HT_.out HW_.out (by kernel_rfl)) (fun _ _ _ h => h) (Or.inl ⟨by rfl, ?_⟩) hHeld ?_ ?_
        rotate_left
        ·
         rintro w' ⟨s0, s1, s2, s3, s4, s5, s6, s7, s8, s9, s10, s11, s12, s13⟩
         go_simp
         with_reducible rfl
        rotate_left
        ·
         simp only [Act.put, List.setIfInBounds_toArray, List.set_cons_zero, List.set_cons_succ, zY, zZ]
         rfl
        refine yC (i := 1) (N := some 17) (v := ?_) (a' := ?_) #[true, true, false, false, false, true, false, true, false, false, false] rfl rfl (zW HT_.out HW_.out (by kernel_rfl)) (fun _ _ _ h => h) (Or.inl ⟨by rfl, ?_⟩) hHeld ?_ ?_
        rotate_left
        ·
         rintro w' ⟨s0, s1, s2, s3, s4, s5, s6, s7, s8, s9, s10, s11, s12, s13⟩
         go_simp
         with_reducible rfl
        rotate_left
        ·
         simp only [Act.put, List.setIfInBounds_toArray, List.set_cons_zero, List.set_cons_succ, zY, zZ]
         rfl
        refine yC (i := 2) (N := some 18) (v := ?_) (a' := ?_) #[true, true, true, false, false, true, false, true, false, false, false] rfl rfl (zW HT_.out HW_.out (by kernel_rfl)) (fun _ _ _ h => h) (Or.inl ⟨by rfl, ?_⟩) hHeld ?_ ?_
        rotate_left
        ·
         rintro w' ⟨s0, s1, s2, s3, s4, s5, s6, s7, s8, s9, s10, s11, s12, s13⟩
         go_simp
         with_reducible rfl
        rotate_left
        ·
         simp only [Act.put, List.setIfInBounds_toArray, List.set_cons_zero, List.set_cons_succ, zY, zZ]
         rfl
        refine yC (i := 6) (N := some 22) (v := ?_) (a' := ?_) #[true, true, true, false, false, true, true, true, false, false, false] rfl rfl (zW HT_.out HW_.out (by kernel_rfl)) (fun _ _ _ h => h) (Or.inl ⟨by rfl, ?_⟩) hHeld ?_ ?_
        rotate_left
        ·
         rintro w' ⟨s0, s1, s2, s3, s4, s5, s6, s7, s8, s9, s10, s11, s12, s13⟩
         go_simp
         with_reducible rfl
        rotate_left
        ·
         simp only [Act.put, List.setIfInBounds_toArray, List.set_cons_zero, List.set_cons_succ, zY, zZ]
         rfl
        refine zR (i := 8) (N := some 24) (v := ?_) (a' := ?_) #[true, true, true, false, false, true, true, true, true, false, false] rfl rfl (zN HT_.out (by kernel_rfl)) (fun _ _ _ h => h) (Or.inl ⟨by rfl, ?_⟩) ?_ ?_
        rotate_left
        ·
         intro w'
         go_simp
         with_reducible rfl
        rotate_left
        ·
         simp only [Act.put, List.setIfInBounds_toArray, List.set_cons_zero, List.set_cons_succ, zY, zZ]
         rfl
        refine yC (i := 9) (N := some 25) (v := ?_) (a' := ?_) #[true, true, true, false, false, true, true, true, true, true, false] rfl rfl (zW HT_.out HW_.out (by kernel_rfl)) (fun _ _ _ h => h) (Or.inl ⟨by rfl, ?_⟩) hHeld ?_ ?_
        rotate_left
        ·
         rintro w' ⟨s0, s1, s2, s3, s4, s5, s6, s7, s8, s9, s10, s11, s12, s13⟩
         go_simp
         with_reducible rfl
        rotate_left
        ·
         simp only [Act.put, List.setIfInBounds_toArray, List.set_cons_zero, List.set_cons_succ, zY, zZ]
         rfl
        refine one_ (i := 3) (N := some 19) #[true, true, true, true, false, true, true, true, true, true, false] rfl rfl (yB HT_.out (by kernel_rfl)) (by decide) (fun K hK => ?_)
        refine yD Try.func111 (by kernel_rfl) rfl #[.agg #[.int .i64 a1_0, .int .i64 a1_1, .int .i64 a1_2, .int .i64 a1_3, .int .i64 a1_4, .int .i64 a1_5], .agg #[.int .i64 ((rd_T50 t321 x11_1).f0), .int .i64 ((rd_T50 t321 x11_1).f1)]] (by rfl) rfl rfl (by (try simp only [List.map_toArray, List.map_cons, List.map_nil]); first | done | rfl) ?_
        with_reducible refine (xS.calls a1_0 a1_1 a1_2 a1_3 a1_4 a1_5 ((rd_T50 t321 x11_1).f0) ((rd_T50 t321 x11_1).f1) t326 t327 _ A13.out).mono ?_
        rintro e w31 ⟨rfl, hb⟩
        refine ⟨_, rfl, ?_⟩
        have n0_ := zC.mk (Kd.R_below (by (with_reducible repeat (first | apply Kd.R_alloc | apply Kd.R_drewN | apply Kd.R_drew)); exact HO_9.out) hb)
        have n1_ := zC.mk (zK (g := gb319) (o := .cells #[.int .i64 a0_0, .int .i64 a0_1, .int .i64 a0_2, .int .i64 a0_3, .slice (some ad329) l0_4.length c0_4] 32 (0, 0)) (by (with_reducible repeat (first | refine zE ?_ _ | refine zI ?_ | refine zD ?_ _)); exact BK319.out) hb)
        have n2_ := zC.mk (zK (g := gb320) (o := .cells #[.int .i64 a1_0, .int .i64 a1_1, .int .i64 a1_2, .int .i64 a1_3, .int .i64 a1_4, .int .i64 a1_5] 52 (0, 0)) (by (with_reducible repeat (first | refine zE ?_ _ | refine zI ?_ | refine zD ?_ _)); exact BK320.out) hb)
        have n3_ := zC.mk (zK (g := gb325) (o := .cells #[.int .i64 ((rd_T50 t321 x11_1).f0), .int .i64 ((rd_T50 t321 x11_1).f1)] 50 (0, 0)) (by (with_reducible repeat (first | refine zE ?_ _ | refine zI ?_ | refine zD ?_ _)); exact BK325.out) hb)
        have n4_ := zC.mk (zL (by repeat (first | (with_reducible first | exact HB.out | apply zG | apply zA | apply zF | refine zH ?_ GE319.out | refine zH ?_ GE320.out | refine zH ?_ GE325.out) | exact HB.out)) hb)
        clear HO_9
        clear BK319
        clear BK320
        clear BK325
        clear HB
        have HO_9 := n0_
        have BK319 := n1_
        have BK320 := n2_
        have BK325 := n3_
        have HB := n4_
        clear n0_ n1_ n2_ n3_ n4_
        (try clear hb)
        refine hK.out _ _ ⟨zB BK319.out 0, zB BK319.out 1, zB BK319.out 2, zB BK319.out 3, zB BK319.out 4, zB BK320.out 0, zB BK320.out 1, zB BK320.out 2, zB BK320.out 3, zB BK320.out 4, zB BK320.out 5, zB BK325.out 0, zB BK325.out 1, ((HB.out.cell (World.block_lt_of_cell? w _ hw329_0)).trans hw329_0)⟩ (fun hHeld => ?_)
        clear hK K
        refine yA (a' := ?_) ?_ ?_
        rotate_left
        ·
         show Act.put _ (some 19) _ = _
         simp only [Act.put, List.setIfInBounds_toArray, List.set_cons_zero, List.set_cons_succ, zY, zZ]
         rfl
        refine one_ (i := 4) (N := some 20) #[true, true, true, true, true, true, true, true, true, true, false] rfl rfl (yB HT_.out (by kernel_rfl)) (by decide) (fun K hK => ?_)
        refine yD Try.func185 (by kernel_rfl) rfl #[.agg #[.int .i64 a0_0, .int .i64 a0_1, .int .i64 a0_2, .int .i64 a0_3, .slice (some ad329) l0_4.length c0_4], .agg #[.int .i64 t326, .int .i64 t327]] (by rfl) rfl rfl (by (try simp only [List.map_toArray, List.map_cons, List.map_nil]); first | done | rfl) ?_
        with_reducible refine (xT.calls a0_0 a0_1 a0_2 a0_3 _ _ l0_4 t326 t327 t328 _ ?side1 ?side2 A14.out).mono ?_
        (case side1 => repeat (first | exact (Kd.C_below HR0_4.out HB.out) | (with_reducible refine Kd.C_alloc ?_ _) | (with_reducible refine Kd.C_drewN ?_ _) | (with_reducible refine Kd.C_drew ?_)))
        (case side2 => exact HC0_4.out)
        rintro e w32 ⟨rfl, hb⟩
        refine ⟨_, rfl, ?_⟩
        have n0_ := zC.mk (Kd.R_below (by (with_reducible repeat (first | apply Kd.R_alloc | apply Kd.R_drewN | apply Kd.R_drew)); exact HO_9.out) hb)
        have n1_ := zC.mk (zK (g := gb319) (o := .cells #[.int .i64 a0_0, .int .i64 a0_1, .int .i64 a0_2, .int .i64 a0_3, .slice (some ad329) l0_4.length c0_4] 32 (0, 0)) (by (with_reducible repeat (first | refine zE ?_ _ | refine zI ?_ | refine zD ?_ _)); exact BK319.out) hb)
        have n2_ := zC.mk (zK (g := gb320) (o := .cells #[.int .i64 a1_0, .int .i64 a1_1, .int .i64 a1_2, .int .i64 a1_3, .int .i64 a1_4, .int .i64 a1_5] 52 (0, 0)) (by (with_reducible repeat (first | refine zE ?_ _ | refine zI ?_ | refine zD ?_ _)); exact BK320.out) hb)
        have n3_ := zC.mk (zK (g := gb325) (o := .cells #[.int .i64 ((rd_T50 t321 x11_1).f0), .int .i64 ((rd_T50 t321 x11_1).f1)] 50 (0, 0)) (by (with_reducible repeat (first | refine zE ?_ _ | refine zI ?_ | refine zD ?_ _)); exact BK325.out) hb)
        have n4_ := zC.mk (zL (by repeat (first | (with_reducible first | exact HB.out | apply zG | apply zA | apply zF | refine zH ?_ GE319.out | refine zH ?_ GE320.out | refine zH ?_ GE325.out) | exact HB.out)) hb)
        clear HO_9
        clear BK319
        clear BK320
        clear BK325
        clear HB
        have HO_9 := n0_
        have BK319 := n1_
        have BK320 := n2_
        have BK325 := n3_
        have HB := n4_
        clear n0_ n1_ n2_ n3_ n4_
        (try clear hb)
        refine hK.out _ _ ⟨zB BK319.out 0, zB BK319.out 1, zB BK319.out 2, zB BK319.out 3, zB BK319.out 4, zB BK320.out 0, zB BK320.out 1, zB BK320.out 2, zB BK320.out 3, zB BK320.out 4, zB BK320.out 5, zB BK325.out 0, zB BK325.out 1, ((HB.out.cell (World.block_lt_of_cell? w _ hw329_0)).trans hw329_0)⟩ (fun hHeld => ?_)
        clear hK K
        refine yA (a' := ?_) ?_ ?_
        rotate_left
        ·
         show Act.put _ (some 20) _ = _
         simp only [Act.put, List.setIfInBounds_toArray, List.set_cons_zero, List.set_cons_succ, zY, zZ]
         rfl
        refine zR (i := 10) (N := some 26) (v := ?_) (a' := ?_) #[true, true, true, true, true, true, true, true, true, true, true] rfl rfl (zN HT_.out (by kernel_rfl)) (fun _ _ _ h => h) (Or.inl ⟨by rfl, ?_⟩) ?_ ?_
        rotate_left
        ·
         intro w'
         go_simp
         with_reducible rfl
        rotate_left
        ·
         simp only [Act.put, List.setIfInBounds_toArray, List.set_cons_zero, List.set_cons_succ, zY, zZ]
         rfl
        refine done_ (done_of HT_.out (by kernel_rfl)) ?_
        try go_wp2
        go_ret
        exact ⟨by first | rfl | (simp [*, errW_none, errW_some] <;> rfl), by repeat (first | (with_reducible first | exact HB.out | apply zG | apply zA | apply zF | refine zH ?_ GE319.out | refine zH ?_ GE320.out | refine zH ?_ GE325.out) | exact HB.out)⟩
      ·
       rw [if_neg c15] at H
       exact absurd H (by simp)
     ·
      rw [if_neg c12] at H
      exact absurd H (by simp)
    ·
     rw [if_neg c11] at H
     exact absurd H (by simp)
   ·
    rw [if_neg c10] at H
    have c10b0 : decide (x11_1 < (t321.length : Int)) = false := decide_eq_false c10
    clear c10
    obtain rfl := Option.some.inj H
    go_wp2
    go_ret
    exact ⟨by first | rfl | (simp [*, errW_none, errW_some] <;> rfl), by repeat (first | (with_reducible first | exact HB.out | apply zG | apply zA | apply zF | refine zH ?_ GE319.out | refine zH ?_ GE320.out) | exact HB.out)⟩
theorem wZ.calls  (r1 : Int) (r2 : Int) (r3 : Int) (r4 : Int) (w : World) (h : wZ.f  = some (r1, r2, r3, r4)) :
  Calls Try.prog 168 #[] w fun e w' => e = .returned (.agg #[.int .i64 r1, .int .i64 r2, .int .i64 r3, .int .i64 r4]) ∧ Below w.heap.size w w' := by
 have hu49 := Try.underlying49
 have HB := zC.mk (Below.refl w.heap.size w)
 have H : (some (1, 0, 0, 1)) = some (r1, r2, r3, r4) := h
 clear h
 simp only [Option.some.injEq, Prod.mk.injEq] at H
 obtain ⟨rfl, rfl, rfl, rfl⟩ := H
 go_enter Try.func168, Try.ntmps168
 go_wp2_with (first | ((with_reducible refine zQ (N := 0) rfl ?_); refine zO ?hg (N := 0) ?hd (cs := #[.int .i64 0, .int .i64 0, .int .i64 0, .int .i64 0]) (t := 49) ?hr ?_; (case hd => rfl); (case hg => rfl); (case hr => first | (go_simp; done) | (go_simp; rfl)); intro gb330 hg w1 hbox hb; have n0_ := zC.mk (zL (by repeat (first | (with_reducible first | exact HB.out | apply zG | apply zA | apply zF) | exact HB.out)) hb); have n1_ := zC.mk (hbox); have n2_ := zC.mk ((by rw [hg]; exact (zM (by repeat (first | (with_reducible first | exact HB.out | apply zG | apply zA | apply zF) | exact HB.out))) : w.heap.size ≤ gb330)); have n3_ := n2_; clear HB; have HB := n0_; have BK330 := n1_; have GW330 := n2_; have GE330 := n3_; clear n0_ n1_ n2_ n3_; clear hb hbox hg; have hcz2_0 : w1.cell? ⟨gb330, 0, none⟩ = some (.int .i64 0) := zB BK330.out 0; have hcz2_1 : w1.cell? ⟨gb330, 1, none⟩ = some (.int .i64 0) := zB BK330.out 1; have hcz2_2 : w1.cell? ⟨gb330, 2, none⟩ = some (.int .i64 0) := zB BK330.out 2; have hcz2_3 : w1.cell? ⟨gb330, 3, none⟩ = some (.int .i64 0) := zB BK330.out 3; have hfz2_0 := zJ BK330.out 0; have hfz2_1 := zJ BK330.out 1; have hfz2_2 := zJ BK330.out 2; have hfz2_3 := zJ BK330.out 3))
 refine bodyPost_ret (results_cell_row rfl _ _ gb330 49 #[.int .i64 1, .int .i64 0, .int .i64 0, .int .i64 1] (0, 0) _ rfl (by (with_reducible repeat (first | refine zE ?_ _ | refine zI ?_ | refine zD ?_ _)); refine zS (cs := #[.int .i64 1, .int .i64 0, .int .i64 0, .int .i64 0]) ?_ 3 _ rfl; (with_reducible repeat (first | refine zE ?_ _ | refine zI ?_ | refine zD ?_ _)); refine zS (cs := #[.int .i64 1, .int .i64 0, .int .i64 0, .int .i64 0]) ?_ 2 _ rfl; (with_reducible repeat (first | refine zE ?_ _ | refine zI ?_ | refine zD ?_ _)); refine zS (cs := #[.int .i64 1, .int .i64 0, .int .i64 0, .int .i64 0]) ?_ 1 _ rfl; (with_reducible repeat (first | refine zE ?_ _ | refine zI ?_ | refine zD ?_ _)); refine zS (cs := #[.int .i64 0, .int .i64 0, .int .i64 0, .int .i64 0]) ?_ 0 _ rfl; (with_reducible repeat (first | refine zE ?_ _ | refine zI ?_ | refine zD ?_ _)); exact BK330.out) Try.underlying49 rfl (by kernel_rfl)) rfl ?_
 exact ⟨by first | rfl | (simp [*, errW_none, errW_some] <;> rfl), by repeat (first | (with_reducible first | exact HB.out | apply zG | apply zA | apply zF | refine zH ?_ GE330.out) | exact HB.out)⟩
theorem wI.calls (a0_0 : Int) (a0_1 : Int) (a1 : Int) (r1 : Int) (r2 : Int) (w : World) (h : wI.f a0_0 a0_1 a1 = some (r1, r2)) :
  Calls Try.prog 186 #[.agg #[.int .i64 a0_0, .int .i64 a0_1], .int .i64 a1] w fun e w' => e = .returned (.agg #[.int .i64 r1, .int .i64 r2]) ∧ Below w.heap.size w w' := by
 have hu50 := Try.underlying50
 have HB := zC.mk (Below.refl w.heap.size w)
 have H : (some (wrap64 (a1 * a0_0), wrap64 (a1 * a0_1))) = some (r1, r2) := h
 clear h
 simp only [Option.some.injEq, Prod.mk.injEq] at H
 obtain ⟨rfl, rfl⟩ := H
 go_enter Try.func186, Try.ntmps186
 go_wp2_with (first | ((with_reducible refine zQ (N := 2) rfl ?_); refine zO ?hg (N := 2) ?hd (cs := #[.int .i64 a0_0, .int .i64 a0_1]) (t := 50) ?hr ?_; (case hd => rfl); (case hg => rfl); (case hr => first | (go_simp; done) | (go_simp; rfl)); intro gb331 hg w3 hbox hb; have n0_ := zC.mk (zL (by repeat (first | (with_reducible first | exact HB.out | apply zG | apply zA | apply zF) | exact HB.out)) hb); have n1_ := zC.mk (hbox); have n2_ := zC.mk ((by rw [hg]; exact (zM (by repeat (first | (with_reducible first | exact HB.out | apply zG | apply zA | apply zF) | exact HB.out))) : w.heap.size ≤ gb331)); have n3_ := n2_; clear HB; have HB := n0_; have BK331 := n1_; have GW331 := n2_; have GE331 := n3_; clear n0_ n1_ n2_ n3_; clear hb hbox hg) | ((with_reducible refine zQ (N := 4) rfl ?_); refine zO ?hg (N := 4) ?hd (cs := #[.int .i64 0, .int .i64 0]) (t := 50) ?hr ?_; (case hd => rfl); (case hg => rfl); (case hr => first | (go_simp; done) | (go_simp; rfl)); intro gb332 hg w4 hbox hb; have n0_ := zC.mk (zK (g := gb331) (o := .cells #[.int .i64 a0_0, .int .i64 a0_1] 50 (0, 0)) (by (with_reducible repeat (first | refine zE ?_ _ | refine zI ?_ | refine zD ?_ _)); exact BK331.out) hb); have n1_ := zC.mk (zL (by repeat (first | (with_reducible first | exact HB.out | apply zG | apply zA | apply zF | refine zH ?_ GE331.out) | exact HB.out)) hb); have n2_ := zC.mk (hbox); have n3_ := zC.mk ((by rw [hg]; exact (zM (by repeat (first | (with_reducible first | exact HB.out | apply zG | apply zA | apply zF | refine zH ?_ GE331.out) | exact HB.out))) : w.heap.size ≤ gb332)); have n4_ := n3_; have n5_ := zC.mk ((by rw [hg]; exact Nat.ne_of_lt (zV (by (with_reducible repeat (first | refine zE ?_ _ | refine zI ?_ | refine zD ?_ _)); exact BK331.out)) : gb331 ≠ gb332)); have n6_ := zC.mk n5_.out.symm; clear BK331; clear HB; have BK331 := n0_; have HB := n1_; have BK332 := n2_; have GW332 := n3_; have GE332 := n4_; have NB331_332 := n5_; have NB332_331 := n6_; clear n0_ n1_ n2_ n3_ n4_ n5_ n6_; clear hb hbox hg; have hnb5 := NB331_332.out; have hnc5 := NB332_331.out; have hcz6_0 : w4.cell? ⟨gb331, 0, none⟩ = some (.int .i64 a0_0) := zB BK331.out 0; have hcz6_1 : w4.cell? ⟨gb331, 1, none⟩ = some (.int .i64 a0_1) := zB BK331.out 1; have hfz6_0 := zJ BK331.out 0; have hfz6_1 := zJ BK331.out 1; have hcz7_0 : w4.cell? ⟨gb332, 0, none⟩ = some (.int .i64 0) := zB BK332.out 0; have hcz7_1 : w4.cell? ⟨gb332, 1, none⟩ = some (.int .i64 0) := zB BK332.out 1; have hfz7_0 := zJ BK332.out 0; have hfz7_1 := zJ BK332.out 1))
 refine bodyPost_ret (results_cell_row rfl _ _ gb332 50 #[.int .i64 (wrap64 (a1 * a0_0)), .int .i64 (wrap64 (a1 * a0_1))] (0, 0) _ rfl (by (with_reducible repeat (first | refine zE ?_ _ | refine zI ?_ | refine zD ?_ _)); refine zS (cs := #[.int .i64 (wrap64 (a1 * a0_0)), .int .i64 0]) ?_ 1 _ rfl; (with_reducible repeat (first | refine zE ?_ _ | refine zI ?_ | refine zD ?_ _)); refine zS (cs := #[.int .i64 0, .int .i64 0]) ?_ 0 _ rfl; (with_reducible repeat (first | refine zE ?_ _ | refine zI ?_ | refine zD ?_ _)); exact BK332.out) Try.underlying50 rfl (by kernel_rfl)) rfl ?_
 exact ⟨by first | rfl | (simp [*, errW_none, errW_some] <;> rfl), by repeat (first | (with_reducible first | exact HB.out | apply zG | apply zA | apply zF | refine zH ?_ GE331.out | refine zH ?_ GE332.out) | exact HB.out)⟩
theorem xL.calls (k : Nat) (a0 : Int) (a1 : Int) (r : Int) (w : World) (h : xL.f k a0 a1 = some r) :
  Calls Try.prog 187 #[.int .i64 a0, .int .i64 a1] w fun e w' => e = .returned (.int .i64 r) ∧ Below w.heap.size w w' := by
 have HB := zC.mk (Below.refl w.heap.size w)
 have H : (xL.l0 k a0 a1) = some r := h
 clear h
 have H' := zC.mk H
 clear H
 go_enter Try.func187, Try.ntmps187
 go_wp2
 repeat (go_quiet (fail); try go_wp2)
 go_loopg [0, 1] k (fun kq v0 v1 w' => ∃ (x0_1 : Int) (x1_1 : Int), v0 = .int .i64 x0_1 ∧ v1 = .int .i64 x1_1 ∧ zC (xL.l0 kq x0_1 x1_1 = some r) ∧ zC (kq ≤ k) ∧ zC (Below w.heap.size w w'))
 case atStart => exact ⟨(a0), (a1), (by first | rfl | (simp; done) | (simp [*]; done)), (by first | rfl | (simp; done) | (simp [*]; done)), H', ⟨Nat.le_refl _⟩, ⟨by repeat (first | (with_reducible first | exact HB.out | apply zG | apply zA | apply zF) | exact HB.out)⟩⟩
 case round =>
  clear H'
  try clear c1
  try clear p2
  obtain ⟨x0_1, x1_1, rfl, rfl, HA, HK1, HB⟩ := hrel
  cases gk with
  | zero => exact absurd HA.out (by simp [xL.l0])
  | succ k1 =>
   have H := HA.out
   clear HA
   simp only [xL.l0] at H
   by_cases c3 : x1_1 = 0
   ·
    rw [if_pos c3] at H
    have c3b0 : (x1_1 == 0) = true := beq_iff_eq.mpr c3
    have c3b1 : (x1_1 != 0) = false := bne_eq_false_iff_eq.mpr c3
    clear c3
    obtain ⟨ji4, hji4⟩ : ∃ j_ : Int, (mx x0_1 (wrap64 (-x0_1))) = j_ := ⟨_, rfl⟩
    replace H : (some ji4) = some r := by first | (rw [hji4] at H; exact H) | (simp only [hji4] at H ⊢; exact H)
    have hji4_ : (if x0_1 < (wrap64 (-x0_1)) then (wrap64 (-x0_1)) else x0_1) = ji4 := hji4
    obtain rfl := Option.some.inj H
    go_wp2
    repeat (go_quiet (fail); try go_wp2)
    go_ret
    exact ⟨by first | rfl | (simp [errW_none, errW_some] <;> rfl) | (simp only [← hji4]; first | rfl | (simp [errW_none, errW_some] <;> rfl)) | (simp [*, errW_none, errW_some] <;> rfl), by repeat (first | (with_reducible first | exact HB.out | apply zG | apply zA | apply zF) | exact HB.out)⟩
   ·
    rw [if_neg c3] at H
    have c3b0 : (x1_1 == 0) = false := beq_eq_false_iff_ne.mpr c3
    have c3b1 : (x1_1 != 0) = true := bne_iff_ne.mpr c3
    have H' := zC.mk H
    clear H
    go_wp2
    repeat (go_quiet (fail); try go_wp2)
    go_roundg k1
    case measure => have := HK1.out; omega
    case rel => exact ⟨(x1_1), (Int.tmod x0_1 x1_1), (by first | rfl | (simp; done) | (simp [*]; done)), (by first | rfl | (simp; done) | (simp [*]; done)), H', ⟨by have := HK1.out; omega⟩, ⟨by repeat (first | (with_reducible first | exact HB.out | apply zG | apply zA | apply zF) | exact HB.out)⟩⟩
def yI.T7 : Bool × List (List Nat × List Nat) := (true, [([], []), ([], []), ([], []), ([], []), ([3], [3]), ([2, 4], [2, 4]), ([1, 5, 5], [1, 5]), ([0, 6, 0, 1], [0]), ([6, 7, 0, 1, 2, 3, 4, 5, 6, 7], [6])])
def yI.B7 : List Nat := [0, 0, 0, 0, 8, 28, 62, 127, 255]
theorem yI.tab7 : rtab .any (opsOf Try.f169 7) = yI.T7 := by kernel_rfl
theorem yI.bits7 : waitsOk yI.T7.2 yI.B7 = true := by kernel_rfl
def yI.T12 : Bool × List (List Nat × List Nat) := (true, [([], []), ([], []), ([1], [1]), ([], []), ([2, 3], [2, 3]), ([], []), ([5], [5]), ([0, 4, 6], [0, 4, 6]), ([7, 4, 0, 1, 2, 3, 4, 5, 6, 7], [7])])
def yI.B12 : List Nat := [0, 0, 2, 0, 14, 0, 32, 127, 255]
theorem yI.tab12 : rtab .any (opsOf Try.f169 12) = yI.T12 := by kernel_rfl
theorem yI.bits12 : waitsOk yI.T12.2 yI.B12 = true := by kernel_rfl
theorem yI.calls (k : Nat) (A0 : Option Addr) (c0 : Nat) (l0 : List (S50)) (r1 : Int) (r2 : Int) (r3 : Int) (w : World) (hr0 : Kd.C k50 w A0 l0.length l0) (hc0 : l0.length ≤ c0) (h : yI.f k l0 = some (r1, r2, r3)) :
  Calls Try.prog 169 #[.slice A0 l0.length c0] w fun e w' => e = .returned (.agg #[.int .i64 r1, .int .i64 r2, .int .i64 r3]) ∧ Below w.heap.size w w' := by
 have hu30 := Try.underlying30
 have hu50 := Try.underlying50
 have HR0 := zC.mk hr0
 have HC0 := zC.mk hc0
 clear hr0 hc0
 have HB := zC.mk (Below.refl w.heap.size w)
 have H : (yI.l0 k 0 l0 (l0.length : Int) 0 0 0) = some (r1, r2, r3) := h
 clear h
 have H' := zC.mk H
 clear H
 go_enter Try.func169, Try.ntmps169
 go_wp2_with (first | ((with_reducible refine zQ (N := 2) rfl ?_); refine zO ?hg (N := 2) ?hd (cs := #[.int .i64 0, .int .i64 0, .int .i64 0]) (t := 30) ?hr ?_; (case hd => rfl); (case hg => rfl); (case hr => first | (go_simp; done) | (go_simp; rfl)); intro gb333 hg w2 hbox hb; have n0_ := zC.mk (zL (by repeat (first | (with_reducible first | exact HB.out | apply zG | apply zA | apply zF) | exact HB.out)) hb); have n1_ := zC.mk (hbox); have n2_ := zC.mk ((by rw [hg]; exact (zM (by repeat (first | (with_reducible first | exact HB.out | apply zG | apply zA | apply zF) | exact HB.out))) : w.heap.size ≤ gb333)); have n3_ := n2_; clear HB; have HB := n0_; have BK333 := n1_; have GW333 := n2_; have GE333 := n3_; clear n0_ n1_ n2_ n3_; clear hb hbox hg) | ((with_reducible refine zQ (N := 4) rfl ?_); refine zO ?hg (N := 4) ?hd (cs := #[.int .i64 0, .int .i64 0]) (t := 50) ?hr ?_; (case hd => rfl); (case hg => rfl); (case hr => first | (go_simp; done) | (go_simp; rfl)); intro gb334 hg w3 hbox hb; have n0_ := zC.mk (zK (g := gb333) (o := .cells #[.int .i64 0, .int .i64 0, .int .i64 0] 30 (0, 0)) (by (with_reducible repeat (first | refine zE ?_ _ | refine zI ?_ | refine zD ?_ _)); exact BK333.out) hb); have n1_ := zC.mk (zL (by repeat (first | (with_reducible first | exact HB.out | apply zG | apply zA | apply zF | refine zH ?_ GE333.out) | exact HB.out)) hb); have n2_ := zC.mk (hbox); have n3_ := zC.mk ((by rw [hg]; exact (zM (by repeat (first | (with_reducible first | exact HB.out | apply zG | apply zA | apply zF | refine zH ?_ GE333.out) | exact HB.out))) : w.heap.size ≤ gb334)); have n4_ := n3_; have n5_ := zC.mk ((by rw [hg]; exact Nat.ne_of_lt (zV (by (with_reducible repeat (first | refine zE ?_ _ | refine zI ?_ | refine zD ?_ _)); exact BK333.out)) : gb333 ≠ gb334)); have n6_ := zC.mk n5_.out.symm; clear BK333; clear HB; have BK333 := n0_; have HB := n1_; have BK334 := n2_; have GW334 := n3_; have GE334 := n4_; have NB333_334 := n5_; have NB334_333 := n6_; clear n0_ n1_ n2_ n3_ n4_ n5_ n6_; clear hb hbox hg; have hnb4 := NB334_333.out; have hnc4 := NB333_334.out; have hcz5_0 : w3.cell? ⟨gb334, 0, none⟩ = some (.int .i64 0) := zB BK334.out 0; have hcz5_1 : w3.cell? ⟨gb334, 1, none⟩ = some (.int .i64 0) := zB BK334.out 1; have hfz5_0 := zJ BK334.out 0; have hfz5_1 := zJ BK334.out 1))
 go_loopg [3, 11] k (fun kq v3 v11 w' => ∃ (x3_1 : Int) (x11_1 : Int) (x335000_1 : Int) (x335001_1 : Int), v3 = .int .i64 x3_1 ∧ v11 = .int .i64 x11_1 ∧ zC (yI.l0 kq x3_1 l0 (l0.length : Int) x11_1 x335000_1 x335001_1 = some (r1, r2, r3)) ∧ zC (kq ≤ k) ∧ zC (w'.heap[gb333]? = some (.cells #[.int .i64 0, .int .i64 0, .int .i64 0] 30 (0, 0))) ∧ zC (w'.heap[gb334]? = some (.cells #[.int .i64 x335000_1, .int .i64 x335001_1] 50 (0, 0))) ∧ zC (Below w.heap.size w w'))
 case atStart => exact ⟨(0), (0), (0), (0), (by first | rfl | (simp; done) | (simp [*]; done)), (by first | rfl | (simp; done) | (simp [*]; done)), H', ⟨Nat.le_refl _⟩, ⟨by (with_reducible repeat (first | refine zE ?_ _ | refine zI ?_ | refine zD ?_ _)); refine zU ?_ NB333_334.out _; (with_reducible repeat (first | refine zE ?_ _ | refine zI ?_ | refine zD ?_ _)); refine zU ?_ NB333_334.out _; (with_reducible repeat (first | refine zE ?_ _ | refine zI ?_ | refine zD ?_ _)); exact BK333.out⟩, ⟨by (with_reducible repeat (first | refine zE ?_ _ | refine zI ?_ | refine zD ?_ _)); refine zS (cs := #[.int .i64 0, .int .i64 0]) ?_ 1 _ rfl; (with_reducible repeat (first | refine zE ?_ _ | refine zI ?_ | refine zD ?_ _)); refine zS (cs := #[.int .i64 0, .int .i64 0]) ?_ 0 _ rfl; (with_reducible repeat (first | refine zE ?_ _ | refine zI ?_ | refine zD ?_ _)); exact BK334.out⟩, ⟨by repeat (first | (with_reducible first | exact HB.out | apply zG | apply zA | apply zF | refine zH ?_ GE333.out | refine zH ?_ GE334.out) | exact HB.out)⟩⟩
 case round =>
  clear H'
  try clear c1
  try clear p2
  try clear c4
  try clear hcz5_0
  try clear hcz5_1
  try clear hfz5_0
  try clear hfz5_1
  obtain ⟨x3_1, x11_1, x335000_1, x335001_1, rfl, rfl, HA, HK1, BK333, BK334, HB⟩ := hrel
  cases gk with
  | zero => exact absurd HA.out (by simp [yI.l0])
  | succ k1 =>
   have H := HA.out
   clear HA
   simp only [yI.l0] at H
   by_cases c6 : x11_1 < (l0.length : Int)
   ·
    rw [if_pos c6] at H
    have c6b0 : decide (x11_1 < (l0.length : Int)) = true := decide_eq_true c6
    clear c6
    by_cases c7 : 0 ≤ x11_1
    ·
     rw [if_pos c7] at H
     have c7b0 : decide (0 ≤ x11_1) = true := decide_eq_true c7
     clear c7
     by_cases c8 : x11_1 < (l0.length : Int)
     ·
      rw [if_pos c8] at H
      have c8b0 : decide (x11_1 < (l0.length : Int)) = true := decide_eq_true c8
      clear c8
      have H' := zC.mk H
      clear H
      have p335 : 0 ≤ (x11_1 : Int) := of_decide_eq_true (by first | (with_reducible assumption) | assumption)
      have q335 : x11_1 < (l0.length : Int) := of_decide_eq_true (by first | (with_reducible assumption) | assumption)
      obtain ⟨ad335, e335, hx335_0, hx335_1⟩ := at_T50 HR0.out x11_1 p335 q335
      cases e335
      replace hx335_0 := (HB.out.cell (World.block_lt_of_cell? w _ hx335_0)).trans hx335_0
      replace hx335_1 := (HB.out.cell (World.block_lt_of_cell? w _ hx335_1)).trans hx335_1
      replace p335 := eq_true p335
      replace q335 := eq_true q335
      go_wp2_with (first | ((with_reducible refine zQ (N := 6) rfl ?_); refine zO ?hg (N := 6) ?hd (cs := #[.int .i64 0, .int .i64 0]) (t := 50) ?hr ?_; (case hd => rfl); (case hg => rfl); (case hr => first | (go_simp; done) | (go_simp; rfl)); intro gb336 hg w9 hbox hb; have n0_ := zC.mk (zK (g := gb333) (o := .cells #[.int .i64 0, .int .i64 0, .int .i64 0] 30 (0, 0)) (by (with_reducible repeat (first | refine zE ?_ _ | refine zI ?_ | refine zD ?_ _)); exact BK333.out) hb); have n1_ := zC.mk (zK (g := gb334) (o := .cells #[.int .i64 x335000_1, .int .i64 x335001_1] 50 (0, 0)) (by (with_reducible repeat (first | refine zE ?_ _ | refine zI ?_ | refine zD ?_ _)); exact BK334.out) hb); have n2_ := zC.mk (zL (by repeat (first | (with_reducible first | exact HB.out | apply zG | apply zA | apply zF | refine zH ?_ GE333.out | refine zH ?_ GE334.out) | exact HB.out)) hb); have n3_ := zC.mk (hbox); have n4_ := zC.mk ((by rw [hg]; exact (zM (by repeat (first | (with_reducible first | exact HB.out | apply zG | apply zA | apply zF | refine zH ?_ GE333.out | refine zH ?_ GE334.out) | exact HB.out))) : w.heap.size ≤ gb336)); have n5_ := n4_; have n6_ := zC.mk ((by rw [hg]; exact Nat.ne_of_lt (zV (by (with_reducible repeat (first | refine zE ?_ _ | refine zI ?_ | refine zD ?_ _)); exact BK333.out)) : gb333 ≠ gb336)); have n7_ := zC.mk n6_.out.symm; have n8_ := zC.mk ((by rw [hg]; exact Nat.ne_of_lt (zV (by (with_reducible repeat (first | refine zE ?_ _ | refine zI ?_ | refine zD ?_ _)); exact BK334.out)) : gb334 ≠ gb336)); have n9_ := zC.mk n8_.out.symm; clear BK333; clear BK334; clear HB; have BK333 := n0_; have BK334 := n1_; have HB := n2_; have BK336 := n3_; have GW336 := n4_; have GE336 := n5_; have NB333_336 := n6_; have NB336_333 := n7_; have NB334_336 := n8_; have NB336_334 := n9_; clear n0_ n1_ n2_ n3_ n4_ n5_ n6_ n7_ n8_ n9_; clear hb hbox hg; have hnb10 := NB336_333.out; have hnc10 := NB333_336.out; have hnb11 := NB336_334.out; have hnc11 := NB334_336.out; have hcz12_0 : w9.cell? ⟨gb336, 0, none⟩ = some (.int .i64 0) := zB BK336.out 0; have hcz12_1 : w9.cell? ⟨gb336, 1, none⟩ = some (.int .i64 0) := zB BK336.out 1; have hfz12_0 := zJ BK336.out 0; have hfz12_1 := zJ BK336.out 1))
      go_loopg [] k1 (fun kq w' => ∃ (x335000_2 : Int) (x335001_2 : Int) (x337000_2 : Int) (x337001_2 : Int), zC (yI.l1 kq x3_1 l0 (l0.length : Int) x11_1 x335000_2 x335001_2 x337000_2 x337001_2 = some (r1, r2, r3)) ∧ zC (kq ≤ k1) ∧ zC (w'.heap[gb333]? = some (.cells #[.int .i64 0, .int .i64 0, .int .i64 0] 30 (0, 0))) ∧ zC (w'.heap[gb334]? = some (.cells #[.int .i64 x335000_2, .int .i64 x335001_2] 50 (0, 0))) ∧ zC (w'.heap[gb336]? = some (.cells #[.int .i64 x337000_2, .int .i64 x337001_2] 50 (0, 0))) ∧ zC (Below w.heap.size w w'))
      case atStart => exact ⟨(x335000_1), (x335001_1), ((rd_T50 l0 x11_1).f0), ((rd_T50 l0 x11_1).f1), H', ⟨Nat.le_refl _⟩, ⟨by (with_reducible repeat (first | refine zE ?_ _ | refine zI ?_ | refine zD ?_ _)); refine zU ?_ NB333_336.out _; (with_reducible repeat (first | refine zE ?_ _ | refine zI ?_ | refine zD ?_ _)); refine zU ?_ NB333_336.out _; (with_reducible repeat (first | refine zE ?_ _ | refine zI ?_ | refine zD ?_ _)); exact BK333.out⟩, ⟨by (with_reducible repeat (first | refine zE ?_ _ | refine zI ?_ | refine zD ?_ _)); refine zU ?_ NB334_336.out _; (with_reducible repeat (first | refine zE ?_ _ | refine zI ?_ | refine zD ?_ _)); refine zU ?_ NB334_336.out _; (with_reducible repeat (first | refine zE ?_ _ | refine zI ?_ | refine zD ?_ _)); exact BK334.out⟩, ⟨by (with_reducible repeat (first | refine zE ?_ _ | refine zI ?_ | refine zD ?_ _)); refine zS (cs := #[.int .i64 ((rd_T50 l0 x11_1).f0), .int .i64 0]) ?_ 1 _ rfl; (with_reducible repeat (first | refine zE ?_ _ | refine zI ?_ | refine zD ?_ _)); refine zS (cs := #[.int .i64 0, .int .i64 0]) ?_ 0 _ rfl; (with_reducible repeat (first | refine zE ?_ _ | refine zI ?_ | refine zD ?_ _)); exact BK336.out⟩, ⟨by repeat (first | (with_reducible first | exact HB.out | apply zG | apply zA | apply zF | refine zH ?_ GE333.out | refine zH ?_ GE334.out | refine zH ?_ GE336.out) | exact HB.out)⟩⟩
      case round =>
       clear H'
       try clear c1
       try clear p2
       try clear p3
       try clear q3
       try clear hx3
       try clear c4
       try clear c6
       try clear c6b0
       try clear c7
       try clear c7b0
       try clear c8
       try clear c8b0
       try clear c10
       try clear c11
       try clear hcz12_0
       try clear hcz12_1
       try clear hcz5_0
       try clear hcz5_1
       try clear hfz12_0
       try clear hfz12_1
       try clear hfz5_0
       try clear hfz5_1
       try clear hx335_0
       try clear hx335_1
       try clear p2
       try clear p335
       try clear q335
       obtain ⟨x335000_2, x335001_2, x337000_2, x337001_2, HA, HK2, BK333, BK334, BK336, HB⟩ := hrel
       cases gk with
       | zero => exact absurd HA.out (by simp [yI.l1])
       | succ k2 =>
        have H := HA.out
        clear HA
        simp only [yI.l1] at H
        by_cases c13 : x337001_2 = 0
        ·
         rw [if_pos c13] at H
         have c13b0 : (x337001_2 == 0) = true := beq_iff_eq.mpr c13
         have c13b1 : (x337001_2 != 0) = false := bne_eq_false_iff_eq.mpr c13
         clear c13
         replace H := Option.bind_eq_some_iff.mp H
         obtain ⟨t337, A140, H⟩ := H
         replace H : (yI.l0 k2 t337 l0 (l0.length : Int) (wrap64 (x11_1 + 1)) x335000_2 x335001_2) = some (r1, r2, r3) := H
         have A14 := zC.mk A140
         clear A140
         have H' := zC.mk H
         clear H
         have hnb15 := NB336_333.out
         have hnc15 := NB333_336.out
         have hnb16 := NB336_334.out
         have hnc16 := NB334_336.out
         have hcz17_0 : wr.cell? ⟨gb336, 0, none⟩ = some (.int .i64 x337000_2) := zB BK336.out 0
         have hcz17_1 : wr.cell? ⟨gb336, 1, none⟩ = some (.int .i64 x337001_2) := zB BK336.out 1
         have hfz17_0 := zJ BK336.out 0
         have hfz17_1 := zJ BK336.out 1
         go_wp2_with (first | ((with_reducible refine zP (f := 187) rfl ?_); refine zX (some 33) rfl rfl Try.func187 (by kernel_rfl) rfl #[.int .i64 x3_1, .int .i64 x337000_2] rfl (by (try simp only [List.map_toArray, List.map_cons, List.map_nil]); first | done | rfl) ?_; (with_reducible refine (xL.calls k2 x3_1 x337000_2 t337 _ A14.out).mono ?_); rintro e w18 ⟨rfl, hb⟩; refine ⟨_, rfl, ?_⟩; have n0_ := zC.mk (zK (g := gb333) (o := .cells #[.int .i64 0, .int .i64 0, .int .i64 0] 30 (0, 0)) (by (with_reducible repeat (first | refine zE ?_ _ | refine zI ?_ | refine zD ?_ _)); exact BK333.out) hb); have n1_ := zC.mk (zK (g := gb334) (o := .cells #[.int .i64 x335000_2, .int .i64 x335001_2] 50 (0, 0)) (by (with_reducible repeat (first | refine zE ?_ _ | refine zI ?_ | refine zD ?_ _)); exact BK334.out) hb); have n2_ := zC.mk (zK (g := gb336) (o := .cells #[.int .i64 x337000_2, .int .i64 x337001_2] 50 (0, 0)) (by (with_reducible repeat (first | refine zE ?_ _ | refine zI ?_ | refine zD ?_ _)); exact BK336.out) hb); have n3_ := zC.mk (zL (by repeat (first | (with_reducible first | exact HB.out | apply zG | apply zA | apply zF | refine zH ?_ GE333.out | refine zH ?_ GE334.out | refine zH ?_ GE336.out) | exact HB.out)) hb); clear BK333; clear BK334; clear BK336; clear HB; have BK333 := n0_; have BK334 := n1_; have BK336 := n2_; have HB := n3_; clear n0_ n1_ n2_ n3_; (try clear hb)))
         go_roundg k2
         case measure => have := HK1.out; have := HK2.out; omega
         case rel => exact ⟨(t337), (wrap64 (x11_1 + 1)), (x335000_2), (x335001_2), (by first | rfl | (simp; done) | (simp [*]; done)), (by first | rfl | (simp; done) | (simp [*]; done)), H', ⟨by have := HK1.out; have := HK2.out; omega⟩, ⟨by (with_reducible repeat (first | refine zE ?_ _ | refine zI ?_ | refine zD ?_ _)); exact BK333.out⟩, ⟨by (with_reducible repeat (first | refine zE ?_ _ | refine zI ?_ | refine zD ?_ _)); exact BK334.out⟩, ⟨by repeat (first | (with_reducible first | exact HB.out | apply zG | apply zA | apply zF | refine zH ?_ GE333.out | refine zH ?_ GE334.out | refine zH ?_ GE336.out) | exact HB.out)⟩⟩
        ·
         rw [if_neg c13] at H
         have c13b0 : (x337001_2 == 0) = false := beq_eq_false_iff_ne.mpr c13
         have c13b1 : (x337001_2 != 0) = true := bne_iff_ne.mpr c13
         replace H := Option.bind_eq_some_iff.mp H
         obtain ⟨⟨t338, t339⟩, A190, H⟩ := H
         replace H : ((xX.f x335000_2 x335001_2 t338 t339).bind fun bt340 => (yI.l1 k2 x3_1 l0 (l0.length : Int) x11_1 x337000_2 x337001_2 bt340.1 bt340.2)) = some (r1, r2, r3) := H
         have A19 := zC.mk A190
         clear A190
         replace H := Option.bind_eq_some_iff.mp H
         obtain ⟨⟨t340, t341⟩, A200, H⟩ := H
         replace H : (yI.l1 k2 x3_1 l0 (l0.length : Int) x11_1 x337000_2 x337001_2 t340 t341) = some (r1, r2, r3) := H
         have A20 := zC.mk A200
         clear A200
         have H' := zC.mk H
         clear H
         have hnb21 := NB336_333.out
         have hnc21 := NB333_336.out
         have hnb22 := NB336_334.out
         have hnc22 := NB334_336.out
         have hcz23_0 : wr.cell? ⟨gb336, 0, none⟩ = some (.int .i64 x337000_2) := zB BK336.out 0
         have hcz23_1 : wr.cell? ⟨gb336, 1, none⟩ = some (.int .i64 x337001_2) := zB BK336.out 1
         have hfz23_0 := zJ BK336.out 0
         have hfz23_1 := zJ BK336.out 1
         have hnb24 := NB334_333.out
         have hnc24 := NB333_334.out
         have hcz25_0 : wr.cell? ⟨gb334, 0, none⟩ = some (.int .i64 x335000_2) := zB BK334.out 0
         have hcz25_1 : wr.cell? ⟨gb334, 1, none⟩ = some (.int .i64 x335001_2) := zB BK334.out 1
         have hfz25_0 := zJ BK334.out 0
         have hfz25_1 := zJ BK334.out 1
         try go_wp2
         have n0_ := zC.mk (zI BK333.out)
         have n1_ := zC.mk (zI BK334.out)
         have n2_ := zC.mk (zI BK336.out)
         have n3_ := zC.mk (zF HB.out)
         clear BK333
         clear BK334
         clear BK336
         clear HB
         have BK333 := n0_
         have BK334 := n1_
         have BK336 := n2_
         have HB := n3_
         clear n0_ n1_ n2_ n3_
         refine start_ (n := 9) (S := fun w' => w'.cell? ⟨gb336, 0, none⟩ = some (.int .i64 x337000_2) ∧ w'.cell? ⟨gb336, 1, none⟩ = some (.int .i64 x337001_2) ∧ w'.cell? ⟨gb334, 0, none⟩ = some (.int .i64 x335000_2) ∧ w'.cell? ⟨gb334, 1, none⟩ = some (.int .i64 x335001_2)) (ds := [7, 8]) #[false, false, false, false, false, false, false, false, false] (by kernel_rfl) rfl rfl ⟨zB BK336.out 0, zB BK336.out 1, zB BK334.out 0, zB BK334.out 1⟩ (fun hHeld => ?_); refine yE yI.tab7 yI.bits7 (fun HT_ HW_ => ?_)
         generalize wr.drew = w26 at BK333 BK334 BK336 HB hHeld ⊢
         refine zR (i := 3) (N := some 26) (v := ?_) (a' := ?_) #[false, false, false, true, false, false, false, false, false] rfl rfl (zN HT_.out (by kernel_rfl)) (fun _ _ _ h => h) (Or.inl ⟨by rfl, ?_⟩) ?_ ?_
         rotate_left
         ·
          intro w'
          go_simp
          with_reducible rfl
         rotate_left
         ·
          simp only [Act.put, List.setIfInBounds_toArray, List.set_cons_zero, List.set_cons_succ, zY, zZ]
          rfl
         refine zR (i := 4) (N := some 27) (v := ?_) (a' := ?_) #[false, false, false, true, true, false, false, false, false] rfl rfl (zN HT_.out (by kernel_rfl)) (fun _ _ _ h => h) (Or.inl ⟨by rfl, ?_⟩) ?_ ?_
         rotate_left
         ·
          intro w'
          go_simp
          with_reducible rfl
         rotate_left
         ·
          simp only [Act.put, List.setIfInBounds_toArray, List.set_cons_zero, List.set_cons_succ, zY, zZ]
          rfl
         refine yC (i := 0) (N := some 23) (v := ?_) (a' := ?_) #[true, false, false, true, true, false, false, false, false] rfl rfl (zW HT_.out HW_.out (by kernel_rfl)) (fun _ _ _ h => h) (Or.inl ⟨by rfl, ?_⟩) hHeld ?_ ?_
         rotate_left
         ·
          rintro w' ⟨s0, s1, s2, s3⟩
          go_simp
          with_reducible rfl
         rotate_left
         ·
          simp only [Act.put, List.setIfInBounds_toArray, List.set_cons_zero, List.set_cons_succ, zY, zZ]
          rfl
         refine yC (i := 1) (N := some 24) (v := ?_) (a' := ?_) #[true, true, false, true, true, false, false, false, false] rfl rfl (zW HT_.out HW_.out (by kernel_rfl)) (fun _ _ _ h => h) (Or.inl ⟨by rfl, ?_⟩) hHeld ?_ ?_
         rotate_left
         ·
          rintro w' ⟨s0, s1, s2, s3⟩
          go_simp
          with_reducible rfl
         rotate_left
         ·
          simp only [Act.put, List.setIfInBounds_toArray, List.set_cons_zero, List.set_cons_succ, zY, zZ]
          rfl
         refine yC (i := 2) (N := some 25) (v := ?_) (a' := ?_) #[true, true, true, true, true, false, false, false, false] rfl rfl (zW HT_.out HW_.out (by kernel_rfl)) (fun _ _ _ h => h) (Or.inl ⟨by rfl, ?_⟩) hHeld ?_ ?_
         rotate_left
         ·
          rintro w' ⟨s0, s1, s2, s3⟩
          go_simp
          with_reducible rfl
         rotate_left
         ·
          simp only [Act.put, List.setIfInBounds_toArray, List.set_cons_zero, List.set_cons_succ, zY, zZ]
          rfl
         refine one_ (i := 5) (N := some 28) #[true, true, true, true, true, true, false, false, false] rfl rfl (yB HT_.out (by kernel_rfl)) (by decide) (fun K hK => ?_)
         refine yD Try.func186 (by kernel_rfl) rfl #[.agg #[.int .i64 x337000_2, .int .i64 x337001_2], .int .i64 (wrap64 (-(wrap64 (Int.tdiv x335001_2 x337001_2))))] (by rfl) rfl rfl (by (try simp only [List.map_toArray, List.map_cons, List.map_nil]); first | done | rfl) ?_
         with_reducible refine (wI.calls x337000_2 x337001_2 (wrap64 (-(wrap64 (Int.tdiv x335001_2 x337001_2)))) t338 t339 _ A19.out).mono ?_
         rintro e w27 ⟨rfl, hb⟩
         refine ⟨_, rfl, ?_⟩
         have n0_ := zC.mk (zK (g := gb333) (o := .cells #[.int .i64 0, .int .i64 0, .int .i64 0] 30 (0, 0)) (by (with_reducible repeat (first | refine zE ?_ _ | refine zI ?_ | refine zD ?_ _)); exact BK333.out) hb)
         have n1_ := zC.mk (zK (g := gb334) (o := .cells #[.int .i64 x335000_2, .int .i64 x335001_2] 50 (0, 0)) (by (with_reducible repeat (first | refine zE ?_ _ | refine zI ?_ | refine zD ?_ _)); exact BK334.out) hb)
         have n2_ := zC.mk (zK (g := gb336) (o := .cells #[.int .i64 x337000_2, .int .i64 x337001_2] 50 (0, 0)) (by (with_reducible repeat (first | refine zE ?_ _ | refine zI ?_ | refine zD ?_ _)); exact BK336.out) hb)
         have n3_ := zC.mk (zL (by repeat (first | (with_reducible first | exact HB.out | apply zG | apply zA | apply zF | refine zH ?_ GE333.out | refine zH ?_ GE334.out | refine zH ?_ GE336.out) | exact HB.out)) hb)
         clear BK333
         clear BK334
         clear BK336
         clear HB
         have BK333 := n0_
         have BK334 := n1_
         have BK336 := n2_
         have HB := n3_
         clear n0_ n1_ n2_ n3_
         (try clear hb)
         refine hK.out _ _ ⟨zB BK336.out 0, zB BK336.out 1, zB BK334.out 0, zB BK334.out 1⟩ (fun hHeld => ?_)
         clear hK K
         refine yA (a' := ?_) ?_ ?_
         rotate_left
         ·
          show Act.put _ (some 28) _ = _
          simp only [Act.put, List.setIfInBounds_toArray, List.set_cons_zero, List.set_cons_succ, zY, zZ]
          rfl
         refine one_ (i := 6) (N := some 29) #[true, true, true, true, true, true, true, false, false] rfl rfl (yB HT_.out (by kernel_rfl)) (by decide) (fun K hK => ?_)
         refine yD Try.func149 (by kernel_rfl) rfl #[.agg #[.int .i64 x335000_2, .int .i64 x335001_2], .agg #[.int .i64 t338, .int .i64 t339]] (by rfl) rfl rfl (by (try simp only [List.map_toArray, List.map_cons, List.map_nil]); first | done | rfl) ?_
         with_reducible refine (xX.calls x335000_2 x335001_2 t338 t339 t340 t341 _ A20.out).mono ?_
         rintro e w28 ⟨rfl, hb⟩
         refine ⟨_, rfl, ?_⟩
         have n0_ := zC.mk (zK (g := gb333) (o := .cells #[.int .i64 0, .int .i64 0, .int .i64 0] 30 (0, 0)) (by (with_reducible repeat (first | refine zE ?_ _ | refine zI ?_ | refine zD ?_ _)); exact BK333.out) hb)
         have n1_ := zC.mk (zK (g := gb334) (o := .cells #[.int .i64 x335000_2, .int .i64 x335001_2] 50 (0, 0)) (by (with_reducible repeat (first | refine zE ?_ _ | refine zI ?_ | refine zD ?_ _)); exact BK334.out) hb)
         have n2_ := zC.mk (zK (g := gb336) (o := .cells #[.int .i64 x337000_2, .int .i64 x337001_2] 50 (0, 0)) (by (with_reducible repeat (first | refine zE ?_ _ | refine zI ?_ | refine zD ?_ _)); exact BK336.out) hb)
         have n3_ := zC.mk (zL (by repeat (first | (with_reducible first | exact HB.out | apply zG | apply zA | apply zF | refine zH ?_ GE333.out | refine zH ?_ GE334.out | refine zH ?_ GE336.out) | exact HB.out)) hb)
         clear BK333
         clear BK334
         clear BK336
         clear HB
         have BK333 := n0_
         have BK334 := n1_
         have BK336 := n2_
         have HB := n3_
         clear n0_ n1_ n2_ n3_
         (try clear hb)
         refine hK.out _ _ ⟨zB BK336.out 0, zB BK336.out 1, zB BK334.out 0, zB BK334.out 1⟩ (fun hHeld => ?_)
         clear hK K
         refine yA (a' := ?_) ?_ ?_
         rotate_left
         ·
          show Act.put _ (some 29) _ = _
          simp only [Act.put, List.setIfInBounds_toArray, List.set_cons_zero, List.set_cons_succ, zY, zZ]
          rfl
         refine last_ (i := 7) (N := none) #[true, true, true, true, true, true, true, true, false] rfl rfl (yB HT_.out (by kernel_rfl)) (by decide) (fun K hK => ?_)
         have hs29 : w28.cell? ⟨gb334, 0, none⟩ = some (.int .i64 x335000_2) := zB BK334.out 0
         have hfs29 := zJ BK334.out 0
         have hns29_0 := NB333_334.out
         have hns29_2 := NB336_334.out
         have hms29_0 := NB334_333.out
         have hms29_2 := NB334_336.out
         have hs30 : w28.cell? ⟨gb334, 1, none⟩ = some (.int .i64 x335001_2) := zB BK334.out 1
         have hfs30 := zJ BK334.out 1
         have hns30_0 := NB333_334.out
         have hns30_2 := NB336_334.out
         have hms30_0 := NB334_333.out
         have hms30_2 := NB334_336.out
         refine skip_ (w1 := ?_) (by rfl) rfl ?_ ?_
         rotate_left
         ·
          go_simp
          rfl
         refine hK.out _ _ ?_
         clear hK K
         refine last_ (i := 8) (N := none) #[true, true, true, true, true, true, true, true, true] rfl rfl (yB HT_.out (by kernel_rfl)) (by decide) (fun K hK => ?_)
         have hs31 : w28.cell? ⟨gb336, 0, none⟩ = some (.int .i64 x337000_2) := zB BK336.out 0
         have hfs31 := zJ BK336.out 0
         have hns31_0 := NB333_336.out
         have hns31_1 := NB334_336.out
         have hms31_0 := NB336_333.out
         have hms31_1 := NB336_334.out
         have hs32 : w28.cell? ⟨gb336, 1, none⟩ = some (.int .i64 x337001_2) := zB BK336.out 1
         have hfs32 := zJ BK336.out 1
         have hns32_0 := NB333_336.out
         have hns32_1 := NB334_336.out
         have hms32_0 := NB336_333.out
         have hms32_1 := NB336_334.out
         refine skip_ (w1 := ?_) (by rfl) rfl ?_ ?_
         rotate_left
         ·
          go_simp
          rfl
         refine hK.out _ _ ?_
         clear hK K
         refine done_ (done_of HT_.out (by kernel_rfl)) ?_
         try go_wp2
         go_roundg k2
         case measure => have := HK1.out; have := HK2.out; omega
         case rel => exact ⟨(x337000_2), (x337001_2), (t340), (t341), H', ⟨by have := HK1.out; have := HK2.out; omega⟩, ⟨by (with_reducible repeat (first | refine zE ?_ _ | refine zI ?_ | refine zD ?_ _)); refine zU ?_ NB333_336.out _; (with_reducible repeat (first | refine zE ?_ _ | refine zI ?_ | refine zD ?_ _)); refine zU ?_ NB333_336.out _; (with_reducible repeat (first | refine zE ?_ _ | refine zI ?_ | refine zD ?_ _)); refine zU ?_ NB333_334.out _; (with_reducible repeat (first | refine zE ?_ _ | refine zI ?_ | refine zD ?_ _)); refine zU ?_ NB333_334.out _; (with_reducible repeat (first | refine zE ?_ _ | refine zI ?_ | refine zD ?_ _)); exact BK333.out⟩, ⟨by (with_reducible repeat (first | refine zE ?_ _ | refine zI ?_ | refine zD ?_ _)); refine zU ?_ NB334_336.out _; (with_reducible repeat (first | refine zE ?_ _ | refine zI ?_ | refine zD ?_ _)); refine zU ?_ NB334_336.out _; (with_reducible repeat (first | refine zE ?_ _ | refine zI ?_ | refine zD ?_ _)); refine zS (cs := #[.int .i64 x337000_2, .int .i64 x335001_2]) ?_ 1 _ rfl; (with_reducible repeat (first | refine zE ?_ _ | refine zI ?_ | refine zD ?_ _)); refine zS (cs := #[.int .i64 x335000_2, .int .i64 x335001_2]) ?_ 0 _ rfl; (with_reducible repeat (first | refine zE ?_ _ | refine zI ?_ | refine zD ?_ _)); exact BK334.out⟩, ⟨by (with_reducible repeat (first | refine zE ?_ _ | refine zI ?_ | refine zD ?_ _)); refine zS (cs := #[.int .i64 t340, .int .i64 x337001_2]) ?_ 1 _ rfl; (with_reducible repeat (first | refine zE ?_ _ | refine zI ?_ | refine zD ?_ _)); refine zS (cs := #[.int .i64 x337000_2, .int .i64 x337001_2]) ?_ 0 _ rfl; (with_reducible repeat (first | refine zE ?_ _ | refine zI ?_ | refine zD ?_ _)); refine zU ?_ NB336_334.out _; (with_reducible repeat (first | refine zE ?_ _ | refine zI ?_ | refine zD ?_ _)); refine zU ?_ NB336_334.out _; (with_reducible repeat (first | refine zE ?_ _ | refine zI ?_ | refine zD ?_ _)); exact BK336.out⟩, ⟨by repeat (first | (with_reducible first | exact HB.out | apply zG | apply zA | apply zF | refine zH ?_ GE333.out | refine zH ?_ GE334.out | refine zH ?_ GE336.out) | exact HB.out)⟩⟩
     ·
      rw [if_neg c8] at H
      exact absurd H (by simp)
    ·
     rw [if_neg c7] at H
     exact absurd H (by simp)
   ·
    rw [if_neg c6] at H
    have c6b0 : decide (x11_1 < (l0.length : Int)) = false := decide_eq_false c6
    clear c6
    by_cases c33 : x335001_1 < 0
    ·
     rw [if_pos c33] at H
     have c33b0 : decide (x335001_1 < 0) = true := decide_eq_true c33
     clear c33
     replace H := Option.bind_eq_some_iff.mp H
     obtain ⟨⟨t342, t343⟩, A340, H⟩ := H
     replace H : ((wG.f t342 x3_1).bind fun t344 => (some (x3_1, t344, t343))) = some (r1, r2, r3) := H
     have A34 := zC.mk A340
     clear A340
     replace H := Option.bind_eq_some_iff.mp H
     obtain ⟨t344, A350, H⟩ := H
     replace H : (some (x3_1, t344, t343)) = some (r1, r2, r3) := H
     have A35 := zC.mk A350
     clear A350
     simp only [Option.some.injEq, Prod.mk.injEq] at H
     obtain ⟨rfl, rfl, rfl⟩ := H
     have hnb36 := NB334_333.out
     have hnc36 := NB333_334.out
     have hcz37_0 : wr.cell? ⟨gb334, 0, none⟩ = some (.int .i64 x335000_1) := zB BK334.out 0
     have hcz37_1 : wr.cell? ⟨gb334, 1, none⟩ = some (.int .i64 x335001_1) := zB BK334.out 1
     have hfz37_0 := zJ BK334.out 0
     have hfz37_1 := zJ BK334.out 1
     try go_wp2_with (first | ((with_reducible refine zP (f := 186) rfl ?_); refine zX (some 39) rfl rfl Try.func186 (by kernel_rfl) rfl #[.agg #[.int .i64 x335000_1, .int .i64 x335001_1], .int .i64 (-1)] rfl (by (try simp only [List.map_toArray, List.map_cons, List.map_nil]); first | done | rfl) ?_; (with_reducible refine (wI.calls x335000_1 x335001_1 (-1) t342 t343 _ A34.out).mono ?_); rintro e w38 ⟨rfl, hb⟩; refine ⟨_, rfl, ?_⟩; have n0_ := zC.mk (zK (g := gb333) (o := .cells #[.int .i64 0, .int .i64 0, .int .i64 0] 30 (0, 0)) (by (with_reducible repeat (first | refine zE ?_ _ | refine zI ?_ | refine zD ?_ _)); exact BK333.out) hb); have n1_ := zC.mk (zK (g := gb334) (o := .cells #[.int .i64 x335000_1, .int .i64 x335001_1] 50 (0, 0)) (by (with_reducible repeat (first | refine zE ?_ _ | refine zI ?_ | refine zD ?_ _)); exact BK334.out) hb); have n2_ := zC.mk (zL (by repeat (first | (with_reducible first | exact HB.out | apply zG | apply zA | apply zF | refine zH ?_ GE333.out | refine zH ?_ GE334.out) | exact HB.out)) hb); clear BK333; clear BK334; clear HB; have BK333 := n0_; have BK334 := n1_; have HB := n2_; clear n0_ n1_ n2_; (try clear hb); have hcz39_0 : w38.cell? ⟨gb334, 0, none⟩ = some (.int .i64 x335000_1) := zB BK334.out 0; have hcz39_1 : w38.cell? ⟨gb334, 1, none⟩ = some (.int .i64 x335001_1) := zB BK334.out 1; have hfz39_0 := zJ BK334.out 0; have hfz39_1 := zJ BK334.out 1))
     have n0_ : zC (((w38.setCell ⟨gb334, 0, none⟩ (.int .i64 t342)).setCell ⟨gb334, 1, none⟩ (.int .i64 t343)).heap[gb333]? = some (.cells #[.int .i64 0, .int .i64 0, .int .i64 0] 30 (0, 0))) := ⟨by (with_reducible repeat (first | refine zE ?_ _ | refine zI ?_ | refine zD ?_ _)); refine zU ?_ NB333_334.out _; (with_reducible repeat (first | refine zE ?_ _ | refine zI ?_ | refine zD ?_ _)); refine zU ?_ NB333_334.out _; (with_reducible repeat (first | refine zE ?_ _ | refine zI ?_ | refine zD ?_ _)); exact BK333.out⟩
     have n1_ : zC (((w38.setCell ⟨gb334, 0, none⟩ (.int .i64 t342)).setCell ⟨gb334, 1, none⟩ (.int .i64 t343)).heap[gb334]? = some (.cells #[.int .i64 t342, .int .i64 t343] 50 (0, 0))) := ⟨by (with_reducible repeat (first | refine zE ?_ _ | refine zI ?_ | refine zD ?_ _)); refine zS (cs := #[.int .i64 t342, .int .i64 x335001_1]) ?_ 1 _ rfl; (with_reducible repeat (first | refine zE ?_ _ | refine zI ?_ | refine zD ?_ _)); refine zS (cs := #[.int .i64 x335000_1, .int .i64 x335001_1]) ?_ 0 _ rfl; (with_reducible repeat (first | refine zE ?_ _ | refine zI ?_ | refine zD ?_ _)); exact BK334.out⟩
     have n2_ : zC (Below w.heap.size w ((w38.setCell ⟨gb334, 0, none⟩ (.int .i64 t342)).setCell ⟨gb334, 1, none⟩ (.int .i64 t343))) := ⟨by repeat (first | (with_reducible first | exact HB.out | apply zG | apply zA | apply zF | refine zH ?_ GE333.out | refine zH ?_ GE334.out) | exact HB.out)⟩
     (try clear BK333)
     (try clear BK334)
     (try clear HB)
     generalize ((w38.setCell ⟨gb334, 0, none⟩ (.int .i64 t342)).setCell ⟨gb334, 1, none⟩ (.int .i64 t343)) = w40 at n0_ n1_ n2_ ⊢
     have BK333 := n0_
     have BK334 := n1_
     have HB := n2_
     clear n0_ n1_ n2_
     have n0_ := zC.mk (zI BK333.out)
     have n1_ := zC.mk (zI BK334.out)
     have n2_ := zC.mk (zF HB.out)
     clear BK333
     clear BK334
     clear HB
     have BK333 := n0_
     have BK334 := n1_
     have HB := n2_
     clear n0_ n1_ n2_
     refine start_ (n := 9) (S := fun w' => w'.cell? ⟨gb334, 0, none⟩ = some (.int .i64 t342) ∧ w'.cell? ⟨gb334, 1, none⟩ = some (.int .i64 t343)) (ds := []) #[false, false, false, false, false, false, false, false, false] (by kernel_rfl) rfl rfl ⟨zB BK334.out 0, zB BK334.out 1⟩ (fun hHeld => ?_); refine yE yI.tab12 yI.bits12 (fun HT_ HW_ => ?_)
     generalize w40.drew = w41 at BK333 BK334 HB hHeld ⊢
     refine zR (i := 0) (N := some 40) (v := ?_) (a' := ?_) #[true, false, false, false, false, false, false, false, false] rfl rfl (zN HT_.out (by kernel_rfl)) (fun _ _ _ h => h) (Or.inl ⟨by rfl, ?_⟩) ?_ ?_
     rotate_left
     ·
      intro w'
      go_simp
      with_reducible rfl
     rotate_left
     ·
      simp only [Act.put, List.setIfInBounds_toArray, List.set_cons_zero, List.set_cons_succ, zY, zZ]
      rfl
     refine zR (i := 1) (N := some 41) (v := ?_) (a' := ?_) #[true, true, false, false, false, false, false, false, false] rfl rfl (zN HT_.out (by kernel_rfl)) (fun _ _ _ h => h) (Or.inl ⟨by rfl, ?_⟩) ?_ ?_
     rotate_left
     ·
      intro w'
      go_simp
      with_reducible rfl
     rotate_left
     ·
      simp only [Act.put, List.setIfInBounds_toArray, List.set_cons_zero, List.set_cons_succ, zY, zZ]
      rfl
     refine zR (i := 3) (N := some 43) (v := ?_) (a' := ?_) #[true, true, false, true, false, false, false, false, false] rfl rfl (zN HT_.out (by kernel_rfl)) (fun _ _ _ h => h) (Or.inl ⟨by rfl, ?_⟩) ?_ ?_
     rotate_left
     ·
      intro w'
      go_simp
      with_reducible rfl
     rotate_left
     ·
      simp only [Act.put, List.setIfInBounds_toArray, List.set_cons_zero, List.set_cons_succ, zY, zZ]
      rfl
     refine zR (i := 5) (N := some 45) (v := ?_) (a' := ?_) #[true, true, false, true, false, true, false, false, false] rfl rfl (zN HT_.out (by kernel_rfl)) (fun _ _ _ h => h) (Or.inl ⟨by rfl, ?_⟩) ?_ ?_
     rotate_left
     ·
      intro w'
      go_simp
      with_reducible rfl
     rotate_left
     ·
      simp only [Act.put, List.setIfInBounds_toArray, List.set_cons_zero, List.set_cons_succ, zY, zZ]
      rfl
     refine yC (i := 2) (N := some 42) (v := ?_) (a' := ?_) #[true, true, true, true, false, true, false, false, false] rfl rfl (zW HT_.out HW_.out (by kernel_rfl)) (fun _ _ _ h => h) (Or.inl ⟨by rfl, ?_⟩) hHeld ?_ ?_
     rotate_left
     ·
      rintro w' ⟨s0, s1⟩
      go_simp
      with_reducible rfl
     rotate_left
     ·
      simp only [Act.put, List.setIfInBounds_toArray, List.set_cons_zero, List.set_cons_succ, zY, zZ]
      rfl
     refine yC (i := 6) (N := some 46) (v := ?_) (a' := ?_) #[true, true, true, true, false, true, true, false, false] rfl rfl (zW HT_.out HW_.out (by kernel_rfl)) (fun _ _ _ h => h) (Or.inl ⟨by rfl, ?_⟩) hHeld ?_ ?_
     rotate_left
     ·
      rintro w' ⟨s0, s1⟩
      go_simp
      with_reducible rfl
     rotate_left
     ·
      simp only [Act.put, List.setIfInBounds_toArray, List.set_cons_zero, List.set_cons_succ, zY, zZ]
      rfl
     refine one_ (i := 4) (N := some 44) #[true, true, true, true, true, true, true, false, false] rfl rfl (yB HT_.out (by kernel_rfl)) (by decide) (fun K hK => ?_)
     refine yD Try.func98 (by kernel_rfl) rfl #[.int .i64 t342, .int .i64 x3_1] (by rfl) rfl rfl (by (try simp only [List.map_toArray, List.map_cons, List.map_nil]); first | done | rfl) ?_
     with_reducible refine (wG.calls t342 x3_1 t344 _ A35.out).mono ?_
     rintro e w' ⟨rfl, ⟨nd, rfl⟩⟩
     refine ⟨_, rfl, ?_⟩
     refine hK.out _ _ ⟨zB BK334.out 0, zB BK334.out 1⟩ (fun hHeld => ?_)
     clear hK K
     refine yA (a' := ?_) ?_ ?_
     rotate_left
     ·
      show Act.put _ (some 44) _ = _
      simp only [Act.put, List.setIfInBounds_toArray, List.set_cons_zero, List.set_cons_succ, zY, zZ]
      rfl
     refine zR (i := 7) (N := some 47) (v := ?_) (a' := ?_) #[true, true, true, true, true, true, true, true, false] rfl rfl (zN HT_.out (by kernel_rfl)) (fun _ _ _ h => h) (Or.inl ⟨by rfl, ?_⟩) ?_ ?_
     rotate_left
     ·
      intro w'
      go_simp
      with_reducible rfl
     rotate_left
     ·
      simp only [Act.put, List.setIfInBounds_toArray, List.set_cons_zero, List.set_cons_succ, zY, zZ]
      rfl
     refine one_ (i := 8) (N := none) #[true, true, true, true, true, true, true, true, true] rfl rfl (yB HT_.out (by kernel_rfl)) (by decide) (fun K hK => ?_)
     have hs42 : w41.cell? ⟨gb333, 0, none⟩ = some (.int .i64 0) := zB BK333.out 0
     have hfs42 := zJ BK333.out 0
     have hns42_1 := NB334_333.out
     have hms42_1 := NB333_334.out
     have hs43 : w41.cell? ⟨gb333, 1, none⟩ = some (.int .i64 0) := zB BK333.out 1
     have hfs43 := zJ BK333.out 1
     have hns43_1 := NB334_333.out
     have hms43_1 := NB333_334.out
     have hs44 : w41.cell? ⟨gb333, 2, none⟩ = some (.int .i64 0) := zB BK333.out 2
     have hfs44 := zJ BK333.out 2
     have hns44_1 := NB334_333.out
     have hms44_1 := NB333_334.out
     refine skip_ (w1 := ?_) (by rfl) rfl ?_ ?_
     rotate_left
     ·
      go_simp
      rfl
     refine hK.out _ _ ⟨((zT (p := ⟨gb333, _, none⟩) NB334_333.out _).trans (((zT (p := ⟨gb333, _, none⟩) NB334_333.out _).trans (((zT (p := ⟨gb333, _, none⟩) NB334_333.out _).trans (hHeld.1)))))), ((zT (p := ⟨gb333, _, none⟩) NB334_333.out _).trans (((zT (p := ⟨gb333, _, none⟩) NB334_333.out _).trans (((zT (p := ⟨gb333, _, none⟩) NB334_333.out _).trans (hHeld.2))))))⟩ (fun hHeld => ?_)
     clear hK K
     refine done_ (done_of HT_.out (by kernel_rfl)) ?_
     try go_wp2
     refine bodyPost_ret (results_cell_row rfl _ _ gb333 30 #[.int .i64 x3_1, .int .i64 t344, .int .i64 t343] (0, 0) _ rfl (by (with_reducible repeat (first | refine zE ?_ _ | refine zI ?_ | refine zD ?_ _)); refine zS (cs := #[.int .i64 x3_1, .int .i64 t344, .int .i64 0]) ?_ 2 _ rfl; (with_reducible repeat (first | refine zE ?_ _ | refine zI ?_ | refine zD ?_ _)); refine zS (cs := #[.int .i64 x3_1, .int .i64 0, .int .i64 0]) ?_ 1 _ rfl; (with_reducible repeat (first | refine zE ?_ _ | refine zI ?_ | refine zD ?_ _)); refine zS (cs := #[.int .i64 0, .int .i64 0, .int .i64 0]) ?_ 0 _ rfl; (with_reducible repeat (first | refine zE ?_ _ | refine zI ?_ | refine zD ?_ _)); exact BK333.out) Try.underlying30 rfl (by kernel_rfl)) rfl ?_
     exact ⟨by first | rfl | (simp [*, errW_none, errW_some] <;> rfl), by repeat (first | (with_reducible first | exact HB.out | apply zG | apply zA | apply zF | refine zH ?_ GE333.out | refine zH ?_ GE334.out) | exact HB.out)⟩
    ·
     rw [if_neg c33] at H
     have c33b0 : decide (x335001_1 < 0) = false := decide_eq_false c33
     clear c33
     replace H := Option.bind_eq_some_iff.mp H
     obtain ⟨t345, A450, H⟩ := H
     replace H : (some (x3_1, t345, x335001_1)) = some (r1, r2, r3) := H
     have A45 := zC.mk A450
     clear A450
     simp only [Option.some.injEq, Prod.mk.injEq] at H
     obtain ⟨rfl, rfl, rfl⟩ := H
     have hnb46 := NB334_333.out
     have hnc46 := NB333_334.out
     have hcz47_0 : wr.cell? ⟨gb334, 0, none⟩ = some (.int .i64 x335000_1) := zB BK334.out 0
     have hcz47_1 : wr.cell? ⟨gb334, 1, none⟩ = some (.int .i64 x335001_1) := zB BK334.out 1
     have hfz47_0 := zJ BK334.out 0
     have hfz47_1 := zJ BK334.out 1
     try go_wp2
     have n0_ := zC.mk (zI BK333.out)
     have n1_ := zC.mk (zI BK334.out)
     have n2_ := zC.mk (zF HB.out)
     clear BK333
     clear BK334
     clear HB
     have BK333 := n0_
     have BK334 := n1_
     have HB := n2_
     clear n0_ n1_ n2_
     refine start_ (n := 9) (S := fun w' => w'.cell? ⟨gb334, 0, none⟩ = some (.int .i64 x335000_1) ∧ w'.cell? ⟨gb334, 1, none⟩ = some (.int .i64 x335001_1)) (ds := []) #[false, false, false, false, false, false, false, false, false] (by kernel_rfl) rfl rfl ⟨zB BK334.out 0, zB BK334.out 1⟩ (fun hHeld => ?_); refine yE yI.tab12 yI.bits12 (fun HT_ HW_ => ?_)
     generalize wr.drew = w48 at BK333 BK334 HB hHeld ⊢
     refine zR (i := 0) (N := some 40) (v := ?_) (a' := ?_) #[true, false, false, false, false, false, false, false, false] rfl rfl (zN HT_.out (by kernel_rfl)) (fun _ _ _ h => h) (Or.inl ⟨by rfl, ?_⟩) ?_ ?_
     rotate_left
     ·
      intro w'
      go_simp
      with_reducible rfl
     rotate_left
     ·
      simp only [Act.put, List.setIfInBounds_toArray, List.set_cons_zero, List.set_cons_succ, zY, zZ]
      rfl
     refine zR (i := 1) (N := some 41) (v := ?_) (a' := ?_) #[true, true, false, false, false, false, false, false, false] rfl rfl (zN HT_.out (by kernel_rfl)) (fun _ _ _ h => h) (Or.inl ⟨by rfl, ?_⟩) ?_ ?_
     rotate_left
     ·
      intro w'
      go_simp
      with_reducible rfl
     rotate_left
     ·
      simp only [Act.put, List.setIfInBounds_toArray, List.set_cons_zero, List.set_cons_succ, zY, zZ]
      rfl
     refine zR (i := 3) (N := some 43) (v := ?_) (a' := ?_) #[true, true, false, true, false, false, false, false, false] rfl rfl (zN HT_.out (by kernel_rfl)) (fun _ _ _ h => h) (Or.inl ⟨by rfl, ?_⟩) ?_ ?_
     rotate_left
     ·
      intro w'
      go_simp
      with_reducible rfl
     rotate_left
     ·
      simp only [Act.put, List.setIfInBounds_toArray, List.set_cons_zero, List.set_cons_succ, zY, zZ]
      rfl
     refine zR (i := 5) (N := some 45) (v := ?_) (a' := ?_) #[true, true, false, true, false, true, false, false, false] rfl rfl (zN HT_.out (by kernel_rfl)) (fun _ _ _ h => h) (Or.inl ⟨by rfl, ?_⟩) ?_ ?_
     rotate_left
     ·
      intro w'
      go_simp
      with_reducible rfl
     rotate_left
     ·
      simp only [Act.put, List.setIfInBounds_toArray, List.set_cons_zero, List.set_cons_succ, zY, zZ]
      rfl
     refine yC (i := 2) (N := some 42) (v := ?_) (a' := ?_) #[true, true, true, true, false, true, false, false, false] rfl rfl (zW HT_.out HW_.out (by kernel_rfl)) (fun _ _ _ h => h) (Or.inl ⟨by rfl, ?_⟩) hHeld ?_ ?_
     rotate_left
     ·
      rintro w' ⟨s0, s1⟩
      go_simp
      with_reducible rfl
     rotate_left
     ·
      simp only [Act.put, List.setIfInBounds_toArray, List.set_cons_zero, List.set_cons_succ, zY, zZ]
      rfl
     refine yC (i := 6) (N := some 46) (v := ?_) (a' := ?_) #[true, true, true, true, false, true, true, false, false] rfl rfl (zW HT_.out HW_.out (by kernel_rfl)) (fun _ _ _ h => h) (Or.inl ⟨by rfl, ?_⟩) hHeld ?_ ?_
     rotate_left
     ·
      rintro w' ⟨s0, s1⟩
      go_simp
      with_reducible rfl
     rotate_left
     ·
      simp only [Act.put, List.setIfInBounds_toArray, List.set_cons_zero, List.set_cons_succ, zY, zZ]
      rfl
     refine one_ (i := 4) (N := some 44) #[true, true, true, true, true, true, true, false, false] rfl rfl (yB HT_.out (by kernel_rfl)) (by decide) (fun K hK => ?_)
     refine yD Try.func98 (by kernel_rfl) rfl #[.int .i64 x335000_1, .int .i64 x3_1] (by rfl) rfl rfl (by (try simp only [List.map_toArray, List.map_cons, List.map_nil]); first | done | rfl) ?_
     with_reducible refine (wG.calls x335000_1 x3_1 t345 _ A45.out).mono ?_
     rintro e w' ⟨rfl, ⟨nd, rfl⟩⟩
     refine ⟨_, rfl, ?_⟩
     refine hK.out _ _ ⟨zB BK334.out 0, zB BK334.out 1⟩ (fun hHeld => ?_)
     clear hK K
     refine yA (a' := ?_) ?_ ?_
     rotate_left
     ·
      show Act.put _ (some 44) _ = _
      simp only [Act.put, List.setIfInBounds_toArray, List.set_cons_zero, List.set_cons_succ, zY, zZ]
      rfl
     refine zR (i := 7) (N := some 47) (v := ?_) (a' := ?_) #[true, true, true, true, true, true, true, true, false] rfl rfl (zN HT_.out (by kernel_rfl)) (fun _ _ _ h => h) (Or.inl ⟨by rfl, ?_⟩) ?_ ?_
     rotate_left
     ·
      intro w'
      go_simp
      with_reducible rfl
     rotate_left
     ·
      simp only [Act.put, List.setIfInBounds_toArray, List.set_cons_zero, List.set_cons_succ, zY, zZ]
      rfl
     refine one_ (i := 8) (N := none) #[true, true, true, true, true, true, true, true, true] rfl rfl (yB HT_.out (by kernel_rfl)) (by decide) (fun K hK => ?_)
     have hs49 : w48.cell? ⟨gb333, 0, none⟩ = some (.int .i64 0) := zB BK333.out 0
     have hfs49 := zJ BK333.out 0
     have hns49_1 := NB334_333.out
     have hms49_1 := NB333_334.out
     have hs50 : w48.cell? ⟨gb333, 1, none⟩ = some (.int .i64 0) := zB BK333.out 1
     have hfs50 := zJ BK333.out 1
     have hns50_1 := NB334_333.out
     have hms50_1 := NB333_334.out
     have hs51 : w48.cell? ⟨gb333, 2, none⟩ = some (.int .i64 0) := zB BK333.out 2
     have hfs51 := zJ BK333.out 2
     have hns51_1 := NB334_333.out
     have hms51_1 := NB333_334.out
     refine skip_ (w1 := ?_) (by rfl) rfl ?_ ?_
     rotate_left
     ·
      go_simp
      rfl
     refine hK.out _ _ ⟨((zT (p := ⟨gb333, _, none⟩) NB334_333.out _).trans (((zT (p := ⟨gb333, _, none⟩) NB334_333.out _).trans (((zT (p := ⟨gb333, _, none⟩) NB334_333.out _).trans (hHeld.1)))))), ((zT (p := ⟨gb333, _, none⟩) NB334_333.out _).trans (((zT (p := ⟨gb333, _, none⟩) NB334_333.out _).trans (((zT (p := ⟨gb333, _, none⟩) NB334_333.out _).trans (hHeld.2))))))⟩ (fun hHeld => ?_)
     clear hK K
     refine done_ (done_of HT_.out (by kernel_rfl)) ?_
     try go_wp2
     refine bodyPost_ret (results_cell_row rfl _ _ gb333 30 #[.int .i64 x3_1, .int .i64 t345, .int .i64 x335001_1] (0, 0) _ rfl (by (with_reducible repeat (first | refine zE ?_ _ | refine zI ?_ | refine zD ?_ _)); refine zS (cs := #[.int .i64 x3_1, .int .i64 t345, .int .i64 0]) ?_ 2 _ rfl; (with_reducible repeat (first | refine zE ?_ _ | refine zI ?_ | refine zD ?_ _)); refine zS (cs := #[.int .i64 x3_1, .int .i64 0, .int .i64 0]) ?_ 1 _ rfl; (with_reducible repeat (first | refine zE ?_ _ | refine zI ?_ | refine zD ?_ _)); refine zS (cs := #[.int .i64 0, .int .i64 0, .int .i64 0]) ?_ 0 _ rfl; (with_reducible repeat (first | refine zE ?_ _ | refine zI ?_ | refine zD ?_ _)); exact BK333.out) Try.underlying30 rfl (by kernel_rfl)) rfl ?_
     exact ⟨by first | rfl | (simp [*, errW_none, errW_some] <;> rfl), by repeat (first | (with_reducible first | exact HB.out | apply zG | apply zA | apply zF | refine zH ?_ GE333.out | refine zH ?_ GE334.out) | exact HB.out)⟩
theorem yH.calls (k : Nat) (a0_0 : Int) (a0_1 : Int) (a0_2 : Int) (a0_3 : Int) (A0_4 : Option Addr) (c0_4 : Nat) (l0_4 : List Int) (r1 : Int) (r2 : Int) (r3 : Int) (w : World) (hr0_4 : Kd.C (Kd.int .i64) w A0_4 l0_4.length l0_4) (hc0_4 : l0_4.length ≤ c0_4) (h : yH.f k a0_0 a0_1 a0_2 a0_3 l0_4 = some (r1, r2, r3)) :
  Calls Try.prog 132 #[.agg #[.int .i64 a0_0, .int .i64 a0_1, .int .i64 a0_2, .int .i64 a0_3, .slice A0_4 l0_4.length c0_4]] w fun e w' => e = .returned (.agg #[.int .i64 r1, .int .i64 r2, .int .i64 r3]) ∧ Below w.heap.size w w' := by
 have hu32 := Try.underlying32
 have hu30 := Try.underlying30
 have hu50 := Try.underlying50
 have hu52 := Try.underlying52
 have HR0_4 := zC.mk hr0_4
 have HC0_4 := zC.mk hc0_4
 clear hr0_4 hc0_4
 have HB := zC.mk (Below.refl w.heap.size w)
 have H : ((xR.f a0_1 a0_2 a0_3).bind fun bt348 => ((yG.f k a0_1 a0_2 a0_3).bind fun t357 => (yH.l0 k (([(⟨bt348.1, bt348.2.1⟩ : S50), (⟨bt348.2.2.1, bt348.2.2.2⟩ : S50)] : List (S50))) t357 (t357.length : Int) 0 a0_0 a0_1 a0_2 a0_3 l0_4))) = some (r1, r2, r3) := h
 clear h
 replace H := Option.bind_eq_some_iff.mp H
 obtain ⟨⟨t348, t349, t350, t351⟩, A20, H⟩ := H
 replace H : ((yG.f k a0_1 a0_2 a0_3).bind fun t357 => (yH.l0 k (([(⟨t348, t349⟩ : S50), (⟨t350, t351⟩ : S50)] : List (S50))) t357 (t357.length : Int) 0 a0_0 a0_1 a0_2 a0_3 l0_4)) = some (r1, r2, r3) := H
 have A2 := zC.mk A20
 clear A20
 obtain ⟨y354, hy354⟩ : ∃ y_ : List (S50), y_ = (([(⟨t348, t349⟩ : S50), (⟨t350, t351⟩ : S50)] : List (S50))) := ⟨_, rfl⟩
 replace H : ((yG.f k a0_1 a0_2 a0_3).bind fun t357 => (yH.l0 k y354 t357 (t357.length : Int) 0 a0_0 a0_1 a0_2 a0_3 l0_4)) = some (r1, r2, r3) := by first | (rw [hy354]; with_reducible exact H) | (have H2_ := (Option.bind_some _ _).symm.trans H; rw [hy354]; with_reducible exact H2_) | (have H2_ := (Option.bind_some _ _).symm.trans H; with_reducible exact H2_) | with_reducible exact H | (rw [hy354]; exact H) | exact H
 have Ny354 := zC.mk hy354
 clear hy354
 replace H := Option.bind_eq_some_iff.mp H
 obtain ⟨t357, A30, H⟩ := H
 replace H : (yH.l0 k y354 t357 (t357.length : Int) 0 a0_0 a0_1 a0_2 a0_3 l0_4) = some (r1, r2, r3) := H
 have A3 := zC.mk A30
 clear A30
 have H' := zC.mk H
 clear H
 go_enter Try.func132, Try.ntmps132
 go_wp2_with (first | ((with_reducible refine zQ (N := 1) rfl ?_); refine zO ?hg (N := 1) ?hd (cs := #[.int .i64 a0_0, .int .i64 a0_1, .int .i64 a0_2, .int .i64 a0_3, .slice A0_4 l0_4.length c0_4]) (t := 32) ?hr ?_; (case hd => rfl); (case hg => rfl); (case hr => first | (go_simp; done) | (go_simp; rfl)); intro gb346 hg w4 hbox hb; have n0_ := zC.mk (zL (by repeat (first | (with_reducible first | exact HB.out | apply zG | apply zA | apply zF) | exact HB.out)) hb); have n1_ := zC.mk (hbox); have n2_ := zC.mk ((by rw [hg]; exact (zM (by repeat (first | (with_reducible first | exact HB.out | apply zG | apply zA | apply zF) | exact HB.out))) : w.heap.size ≤ gb346)); have n3_ := n2_; clear HB; have HB := n0_; have BK346 := n1_; have GW346 := n2_; have GE346 := n3_; clear n0_ n1_ n2_ n3_; clear hb hbox hg) | ((with_reducible refine zQ (N := 2) rfl ?_); refine zO ?hg (N := 2) ?hd (cs := #[.int .i64 0, .int .i64 0, .int .i64 0]) (t := 30) ?hr ?_; (case hd => rfl); (case hg => rfl); (case hr => first | (go_simp; done) | (go_simp; rfl)); intro gb347 hg w5 hbox hb; have n0_ := zC.mk (zK (g := gb346) (o := .cells #[.int .i64 a0_0, .int .i64 a0_1, .int .i64 a0_2, .int .i64 a0_3, .slice A0_4 l0_4.length c0_4] 32 (0, 0)) (by (with_reducible repeat (first | refine zE ?_ _ | refine zI ?_ | refine zD ?_ _)); exact BK346.out) hb); have n1_ := zC.mk (zL (by repeat (first | (with_reducible first | exact HB.out | apply zG | apply zA | apply zF | refine zH ?_ GE346.out) | exact HB.out)) hb); have n2_ := zC.mk (hbox); have n3_ := zC.mk ((by rw [hg]; exact (zM (by repeat (first | (with_reducible first | exact HB.out | apply zG | apply zA | apply zF | refine zH ?_ GE346.out) | exact HB.out))) : w.heap.size ≤ gb347)); have n4_ := n3_; have n5_ := zC.mk ((by rw [hg]; exact Nat.ne_of_lt (zV (by (with_reducible repeat (first | refine zE ?_ _ | refine zI ?_ | refine zD ?_ _)); exact BK346.out)) : gb346 ≠ gb347)); have n6_ := zC.mk n5_.out.symm; clear BK346; clear HB; have BK346 := n0_; have HB := n1_; have BK347 := n2_; have GW347 := n3_; have GE347 := n4_; have NB346_347 := n5_; have NB347_346 := n6_; clear n0_ n1_ n2_ n3_ n4_ n5_ n6_; clear hb hbox hg; have hnb6 := NB346_347.out; have hnc6 := NB347_346.out; have hcz7_0 : w5.cell? ⟨gb346, 0, none⟩ = some (.int .i64 a0_0) := zB BK346.out 0; have hcz7_1 : w5.cell? ⟨gb346, 1, none⟩ = some (.int .i64 a0_1) := zB BK346.out 1; have hcz7_2 : w5.cell? ⟨gb346, 2, none⟩ = some (.int .i64 a0_2) := zB BK346.out 2; have hcz7_3 : w5.cell? ⟨gb346, 3, none⟩ = some (.int .i64 a0_3) := zB BK346.out 3; have hcz7_4 : w5.cell? ⟨gb346, 4, none⟩ = some (.slice A0_4 l0_4.length c0_4) := zB BK346.out 4; have hfz7_0 := zJ BK346.out 0; have hfz7_1 := zJ BK346.out 1; have hfz7_2 := zJ BK346.out 2; have hfz7_3 := zJ BK346.out 3; have hfz7_4 := zJ BK346.out 4) | ((with_reducible refine zP (f := 144) rfl ?_); refine zX (some 11) rfl rfl Try.func144 (by kernel_rfl) rfl #[.agg #[.int .i64 a0_1, .int .i64 a0_2, .int .i64 a0_3]] rfl (by (try simp only [List.map_toArray, List.map_cons, List.map_nil]); first | done | rfl) ?_; (with_reducible refine (xR.calls a0_1 a0_2 a0_3 t348 t349 t350 t351 _ A2.out).mono ?_); rintro e w8 ⟨rfl, hb⟩; refine ⟨_, rfl, ?_⟩; have n0_ := zC.mk (zK (g := gb346) (o := .cells #[.int .i64 a0_0, .int .i64 a0_1, .int .i64 a0_2, .int .i64 a0_3, .slice A0_4 l0_4.length c0_4] 32 (0, 0)) (by (with_reducible repeat (first | refine zE ?_ _ | refine zI ?_ | refine zD ?_ _)); exact BK346.out) hb); have n1_ := zC.mk (zK (g := gb347) (o := .cells #[.int .i64 0, .int .i64 0, .int .i64 0] 30 (0, 0)) (by (with_reducible repeat (first | refine zE ?_ _ | refine zI ?_ | refine zD ?_ _)); exact BK347.out) hb); have n2_ := zC.mk (zL (by repeat (first | (with_reducible first | exact HB.out | apply zG | apply zA | apply zF | refine zH ?_ GE346.out | refine zH ?_ GE347.out) | exact HB.out)) hb); clear BK346; clear BK347; clear HB; have BK346 := n0_; have BK347 := n1_; have HB := n2_; clear n0_ n1_ n2_; (try clear hb)) | ((with_reducible refine zQ (N := 3) rfl ?_); refine zO ?hg (N := 3) ?hd (cs := #[.int .i64 0, .int .i64 0]) (t := 50) ?hr ?_; (case hd => rfl); (case hg => rfl); (case hr => first | (go_simp; done) | (go_simp; rfl)); intro gb352 hg w9 hbox hb; have n0_ := zC.mk (zK (g := gb346) (o := .cells #[.int .i64 a0_0, .int .i64 a0_1, .int .i64 a0_2, .int .i64 a0_3, .slice A0_4 l0_4.length c0_4] 32 (0, 0)) (by (with_reducible repeat (first | refine zE ?_ _ | refine zI ?_ | refine zD ?_ _)); exact BK346.out) hb); have n1_ := zC.mk (zK (g := gb347) (o := .cells #[.int .i64 0, .int .i64 0, .int .i64 0] 30 (0, 0)) (by (with_reducible repeat (first | refine zE ?_ _ | refine zI ?_ | refine zD ?_ _)); exact BK347.out) hb); have n2_ := zC.mk (zL (by repeat (first | (with_reducible first | exact HB.out | apply zG | apply zA | apply zF | refine zH ?_ GE346.out | refine zH ?_ GE347.out) | exact HB.out)) hb); have n3_ := zC.mk (hbox); have n4_ := zC.mk ((by rw [hg]; exact (zM (by repeat (first | (with_reducible first | exact HB.out | apply zG | apply zA | apply zF | refine zH ?_ GE346.out | refine zH ?_ GE347.out) | exact HB.out))) : w.heap.size ≤ gb352)); have n5_ := n4_; have n6_ := zC.mk ((by rw [hg]; exact Nat.ne_of_lt (zV (by (with_reducible repeat (first | refine zE ?_ _ | refine zI ?_ | refine zD ?_ _)); exact BK346.out)) : gb346 ≠ gb352)); have n7_ := zC.mk n6_.out.symm; have n8_ := zC.mk ((by rw [hg]; exact Nat.ne_of_lt (zV (by (with_reducible repeat (first | refine zE ?_ _ | refine zI ?_ | refine zD ?_ _)); exact BK347.out)) : gb347 ≠ gb352)); have n9_ := zC.mk n8_.out.symm; clear BK346; clear BK347; clear HB; have BK346 := n0_; have BK347 := n1_; have HB := n2_; have BK352 := n3_; have GW352 := n4_; have GE352 := n5_; have NB346_352 := n6_; have NB352_346 := n7_; have NB347_352 := n8_; have NB352_347 := n9_; clear n0_ n1_ n2_ n3_ n4_ n5_ n6_ n7_ n8_ n9_; clear hb hbox hg) | ((with_reducible refine zQ (N := 4) rfl ?_); refine zO ?hg (N := 4) ?hd (cs := #[.int .i64 0, .int .i64 0]) (t := 50) ?hr ?_; (case hd => rfl); (case hg => rfl); (case hr => first | (go_simp; done) | (go_simp; rfl)); intro gb353 hg w10 hbox hb; have n0_ := zC.mk (zK (g := gb346) (o := .cells #[.int .i64 a0_0, .int .i64 a0_1, .int .i64 a0_2, .int .i64 a0_3, .slice A0_4 l0_4.length c0_4] 32 (0, 0)) (by (with_reducible repeat (first | refine zE ?_ _ | refine zI ?_ | refine zD ?_ _)); exact BK346.out) hb); have n1_ := zC.mk (zK (g := gb347) (o := .cells #[.int .i64 0, .int .i64 0, .int .i64 0] 30 (0, 0)) (by (with_reducible repeat (first | refine zE ?_ _ | refine zI ?_ | refine zD ?_ _)); exact BK347.out) hb); have n2_ := zC.mk (zK (g := gb352) (o := .cells #[.int .i64 0, .int .i64 0] 50 (0, 0)) (by (with_reducible repeat (first | refine zE ?_ _ | refine zI ?_ | refine zD ?_ _)); exact BK352.out) hb); have n3_ := zC.mk (zL (by repeat (first | (with_reducible first | exact HB.out | apply zG | apply zA | apply zF | refine zH ?_ GE346.out | refine zH ?_ GE347.out | refine zH ?_ GE352.out) | exact HB.out)) hb); have n4_ := zC.mk (hbox); have n5_ := zC.mk ((by rw [hg]; exact (zM (by repeat (first | (with_reducible first | exact HB.out | apply zG | apply zA | apply zF | refine zH ?_ GE346.out | refine zH ?_ GE347.out | refine zH ?_ GE352.out) | exact HB.out))) : w.heap.size ≤ gb353)); have n6_ := n5_; have n7_ := zC.mk ((by rw [hg]; exact Nat.ne_of_lt (zV (by (with_reducible repeat (first | refine zE ?_ _ | refine zI ?_ | refine zD ?_ _)); exact BK346.out)) : gb346 ≠ gb353)); have n8_ := zC.mk n7_.out.symm; have n9_ := zC.mk ((by rw [hg]; exact Nat.ne_of_lt (zV (by (with_reducible repeat (first | refine zE ?_ _ | refine zI ?_ | refine zD ?_ _)); exact BK347.out)) : gb347 ≠ gb353)); have n10_ := zC.mk n9_.out.symm; have n11_ := zC.mk ((by rw [hg]; exact Nat.ne_of_lt (zV (by (with_reducible repeat (first | refine zE ?_ _ | refine zI ?_ | refine zD ?_ _)); exact BK352.out)) : gb352 ≠ gb353)); have n12_ := zC.mk n11_.out.symm; clear BK346; clear BK347; clear BK352; clear HB; have BK346 := n0_; have BK347 := n1_; have BK352 := n2_; have HB := n3_; have BK353 := n4_; have GW353 := n5_; have GE353 := n6_; have NB346_353 := n7_; have NB353_346 := n8_; have NB347_353 := n9_; have NB353_347 := n10_; have NB352_353 := n11_; have NB353_352 := n12_; clear n0_ n1_ n2_ n3_ n4_ n5_ n6_ n7_ n8_ n9_ n10_ n11_ n12_; clear hb hbox hg; have hnb11 := NB352_346.out; have hnc11 := NB346_352.out; have hnb12 := NB352_347.out; have hnc12 := NB347_352.out; have hnb13 := NB352_353.out; have hnc13 := NB353_352.out; have hcz14_0 : w10.cell? ⟨gb352, 0, none⟩ = some (.int .i64 0) := zB BK352.out 0; have hcz14_1 : w10.cell? ⟨gb352, 1, none⟩ = some (.int .i64 0) := zB BK352.out 1; have hfz14_0 := zJ BK352.out 0; have hfz14_1 := zJ BK352.out 1; have hnb15 := NB353_346.out; have hnc15 := NB346_353.out; have hnb16 := NB353_347.out; have hnc16 := NB347_353.out; have hcz17_0 : w10.cell? ⟨gb353, 0, none⟩ = some (.int .i64 0) := zB BK353.out 0; have hcz17_1 : w10.cell? ⟨gb353, 1, none⟩ = some (.int .i64 0) := zB BK353.out 1; have hfz17_0 := zJ BK353.out 0; have hfz17_1 := zJ BK353.out 1) | ((with_reducible refine zQ (N := 16) rfl ?_); refine Kd.R_lit k50 _ 50 ?hg (N := 16) ?hd (xs := ([(⟨t348, t349⟩ : S50), (⟨t350, t351⟩ : S50)] : List (S50))) (inner := [.int .i64 t348, .int .i64 t349, .int .i64 t350, .int .i64 t351]) (ok := fun _ => True) (okp := fun _ => True) ?hr ?hp (fun _ hk => hk) trivial (Below.refl _ _) (Nat.le_refl _) (by simp) ?_; (case hd => rfl); (case hg => rfl); (case hr => first | (go_simp; done) | (go_simp; rfl)); (case hp => exact (Reps.c2 (show Kd.M k50 _ _ _ (⟨t348, t349⟩ : S50) [.int .i64 t348, .int .i64 t349] from (k50_mkM _ _ _ (⟨t348, t349⟩ : S50) )) (Reps.c2 (show Kd.M k50 _ _ _ (⟨t350, t351⟩ : S50) [.int .i64 t350, .int .i64 t351] from (k50_mkM _ _ _ (⟨t350, t351⟩ : S50) )) (Reps.none _ _)))); intro v355 w18 ho19 hb hg_ hnew_; clear hg_ hnew_; (first | rw [← Ny354.out] at ho19 | (simp only [Int.reduceToNat] at ho19; rw [← Ny354.out] at ho19)); have n0_ := zC.mk (Kd.R_lower (Kd.R_newB (Kd.R_newB ho19 (g := gb352) (o := .cells #[.int .i64 t348, .int .i64 t349] 50 (0, 0)) (by (with_reducible repeat (first | refine zE ?_ _ | refine zI ?_ | refine zD ?_ _)); refine zU ?_ NB352_353.out _; (with_reducible repeat (first | refine zE ?_ _ | refine zI ?_ | refine zD ?_ _)); refine zU ?_ NB352_353.out _; (with_reducible repeat (first | refine zE ?_ _ | refine zI ?_ | refine zD ?_ _)); refine zS (cs := #[.int .i64 t348, .int .i64 0]) ?_ 1 _ rfl; (with_reducible repeat (first | refine zE ?_ _ | refine zI ?_ | refine zD ?_ _)); refine zS (cs := #[.int .i64 0, .int .i64 0]) ?_ 0 _ rfl; (with_reducible repeat (first | refine zE ?_ _ | refine zI ?_ | refine zD ?_ _)); exact BK352.out)) (g := gb353) (o := .cells #[.int .i64 t350, .int .i64 t351] 50 (0, 0)) (by (with_reducible repeat (first | refine zE ?_ _ | refine zI ?_ | refine zD ?_ _)); refine zS (cs := #[.int .i64 t350, .int .i64 0]) ?_ 1 _ rfl; (with_reducible repeat (first | refine zE ?_ _ | refine zI ?_ | refine zD ?_ _)); refine zS (cs := #[.int .i64 0, .int .i64 0]) ?_ 0 _ rfl; (with_reducible repeat (first | refine zE ?_ _ | refine zI ?_ | refine zD ?_ _)); refine zU ?_ NB353_352.out _; (with_reducible repeat (first | refine zE ?_ _ | refine zI ?_ | refine zD ?_ _)); refine zU ?_ NB353_352.out _; (with_reducible repeat (first | refine zE ?_ _ | refine zI ?_ | refine zD ?_ _)); exact BK353.out)) (zM (by repeat (first | (with_reducible first | exact HB.out | apply zG | apply zA | apply zF | refine zH ?_ GE346.out | refine zH ?_ GE347.out | refine zH ?_ GE352.out | refine zH ?_ GE353.out) | exact HB.out)))); have n1_ := zC.mk (zK (g := gb346) (o := .cells #[.int .i64 a0_0, .int .i64 a0_1, .int .i64 a0_2, .int .i64 a0_3, .slice A0_4 l0_4.length c0_4] 32 (0, 0)) (by (with_reducible repeat (first | refine zE ?_ _ | refine zI ?_ | refine zD ?_ _)); refine zU ?_ NB346_353.out _; (with_reducible repeat (first | refine zE ?_ _ | refine zI ?_ | refine zD ?_ _)); refine zU ?_ NB346_353.out _; (with_reducible repeat (first | refine zE ?_ _ | refine zI ?_ | refine zD ?_ _)); refine zU ?_ NB346_352.out _; (with_reducible repeat (first | refine zE ?_ _ | refine zI ?_ | refine zD ?_ _)); refine zU ?_ NB346_352.out _; (with_reducible repeat (first | refine zE ?_ _ | refine zI ?_ | refine zD ?_ _)); exact BK346.out) hb); have n2_ := zC.mk (zK (g := gb347) (o := .cells #[.int .i64 0, .int .i64 0, .int .i64 0] 30 (0, 0)) (by (with_reducible repeat (first | refine zE ?_ _ | refine zI ?_ | refine zD ?_ _)); refine zU ?_ NB347_353.out _; (with_reducible repeat (first | refine zE ?_ _ | refine zI ?_ | refine zD ?_ _)); refine zU ?_ NB347_353.out _; (with_reducible repeat (first | refine zE ?_ _ | refine zI ?_ | refine zD ?_ _)); refine zU ?_ NB347_352.out _; (with_reducible repeat (first | refine zE ?_ _ | refine zI ?_ | refine zD ?_ _)); refine zU ?_ NB347_352.out _; (with_reducible repeat (first | refine zE ?_ _ | refine zI ?_ | refine zD ?_ _)); exact BK347.out) hb); have n3_ := zC.mk (zK (g := gb352) (o := .cells #[.int .i64 t348, .int .i64 t349] 50 (0, 0)) (by (with_reducible repeat (first | refine zE ?_ _ | refine zI ?_ | refine zD ?_ _)); refine zU ?_ NB352_353.out _; (with_reducible repeat (first | refine zE ?_ _ | refine zI ?_ | refine zD ?_ _)); refine zU ?_ NB352_353.out _; (with_reducible repeat (first | refine zE ?_ _ | refine zI ?_ | refine zD ?_ _)); refine zS (cs := #[.int .i64 t348, .int .i64 0]) ?_ 1 _ rfl; (with_reducible repeat (first | refine zE ?_ _ | refine zI ?_ | refine zD ?_ _)); refine zS (cs := #[.int .i64 0, .int .i64 0]) ?_ 0 _ rfl; (with_reducible repeat (first | refine zE ?_ _ | refine zI ?_ | refine zD ?_ _)); exact BK352.out) hb); have n4_ := zC.mk (zK (g := gb353) (o := .cells #[.int .i64 t350, .int .i64 t351] 50 (0, 0)) (by (with_reducible repeat (first | refine zE ?_ _ | refine zI ?_ | refine zD ?_ _)); refine zS (cs := #[.int .i64 t350, .int .i64 0]) ?_ 1 _ rfl; (with_reducible repeat (first | refine zE ?_ _ | refine zI ?_ | refine zD ?_ _)); refine zS (cs := #[.int .i64 0, .int .i64 0]) ?_ 0 _ rfl; (with_reducible repeat (first | refine zE ?_ _ | refine zI ?_ | refine zD ?_ _)); refine zU ?_ NB353_352.out _; (with_reducible repeat (first | refine zE ?_ _ | refine zI ?_ | refine zD ?_ _)); refine zU ?_ NB353_352.out _; (with_reducible repeat (first | refine zE ?_ _ | refine zI ?_ | refine zD ?_ _)); exact BK353.out) hb); have n5_ := zC.mk (zL (by repeat (first | (with_reducible first | exact HB.out | apply zG | apply zA | apply zF | refine zH ?_ GE346.out | refine zH ?_ GE347.out | refine zH ?_ GE352.out | refine zH ?_ GE353.out) | exact HB.out)) hb); clear BK346; clear BK347; clear BK352; clear BK353; clear HB; have HO356 := n0_; have BK346 := n1_; have BK347 := n2_; have BK352 := n3_; have BK353 := n4_; have HB := n5_; clear n0_ n1_ n2_ n3_ n4_ n5_; clear hb ho19; have hcz20_0 : w18.cell? ⟨gb346, 0, none⟩ = some (.int .i64 a0_0) := zB BK346.out 0; have hcz20_1 : w18.cell? ⟨gb346, 1, none⟩ = some (.int .i64 a0_1) := zB BK346.out 1; have hcz20_2 : w18.cell? ⟨gb346, 2, none⟩ = some (.int .i64 a0_2) := zB BK346.out 2; have hcz20_3 : w18.cell? ⟨gb346, 3, none⟩ = some (.int .i64 a0_3) := zB BK346.out 3; have hcz20_4 : w18.cell? ⟨gb346, 4, none⟩ = some (.slice A0_4 l0_4.length c0_4) := zB BK346.out 4; have hfz20_0 := zJ BK346.out 0; have hfz20_1 := zJ BK346.out 1; have hfz20_2 := zJ BK346.out 2; have hfz20_3 := zJ BK346.out 3; have hfz20_4 := zJ BK346.out 4) | ((with_reducible refine zP (f := 68) rfl ?_); refine zX (some 19) rfl rfl Try.func68 (by kernel_rfl) rfl #[.agg #[.int .i64 a0_1, .int .i64 a0_2, .int .i64 a0_3]] rfl (by (try simp only [List.map_toArray, List.map_cons, List.map_nil]); first | done | rfl) ?_; (with_reducible refine (yG.calls k a0_1 a0_2 a0_3 t357 _ A3.out).mono ?_); rintro e w21 ⟨v358, rfl, ho0, hb⟩; refine ⟨_, rfl, ?_⟩; have n0_ := zC.mk (Kd.R_elder' (by (with_reducible repeat (first | apply Kd.R_alloc | apply Kd.R_drewN | apply Kd.R_drew)); exact HO356.out) (Kd.R_base ho0) hb); have n1_ := zC.mk (Kd.R_lower (Kd.R_newB (Kd.R_newB (Kd.R_new' ho0 (Kd.R_lt (by (with_reducible repeat (first | apply Kd.R_alloc | apply Kd.R_drewN | apply Kd.R_drew)); exact HO356.out))) (g := gb352) (o := .cells #[.int .i64 t348, .int .i64 t349] 50 (0, 0)) (by (with_reducible repeat (first | refine zE ?_ _ | refine zI ?_ | refine zD ?_ _)); exact BK352.out)) (g := gb353) (o := .cells #[.int .i64 t350, .int .i64 t351] 50 (0, 0)) (by (with_reducible repeat (first | refine zE ?_ _ | refine zI ?_ | refine zD ?_ _)); exact BK353.out)) (zM (by repeat (first | (with_reducible first | exact HB.out | apply zG | apply zA | apply zF | refine zH ?_ GE346.out | refine zH ?_ GE347.out | refine zH ?_ GE352.out | refine zH ?_ GE353.out) | exact HB.out)))); have n2_ := zC.mk (zK (g := gb346) (o := .cells #[.int .i64 a0_0, .int .i64 a0_1, .int .i64 a0_2, .int .i64 a0_3, .slice A0_4 l0_4.length c0_4] 32 (0, 0)) (by (with_reducible repeat (first | refine zE ?_ _ | refine zI ?_ | refine zD ?_ _)); exact BK346.out) hb); have n3_ := zC.mk (zK (g := gb347) (o := .cells #[.int .i64 0, .int .i64 0, .int .i64 0] 30 (0, 0)) (by (with_reducible repeat (first | refine zE ?_ _ | refine zI ?_ | refine zD ?_ _)); exact BK347.out) hb); have n4_ := zC.mk (zK (g := gb352) (o := .cells #[.int .i64 t348, .int .i64 t349] 50 (0, 0)) (by (with_reducible repeat (first | refine zE ?_ _ | refine zI ?_ | refine zD ?_ _)); exact BK352.out) hb); have n5_ := zC.mk (zK (g := gb353) (o := .cells #[.int .i64 t350, .int .i64 t351] 50 (0, 0)) (by (with_reducible repeat (first | refine zE ?_ _ | refine zI ?_ | refine zD ?_ _)); exact BK353.out) hb); have n6_ := zC.mk (zL (by repeat (first | (with_reducible first | exact HB.out | apply zG | apply zA | apply zF | refine zH ?_ GE346.out | refine zH ?_ GE347.out | refine zH ?_ GE352.out | refine zH ?_ GE353.out) | exact HB.out)) hb); clear HO356; clear BK346; clear BK347; clear BK352; clear BK353; clear HB; have HO356 := n0_; have HO359 := n1_; have BK346 := n2_; have BK347 := n3_; have BK352 := n4_; have BK353 := n5_; have HB := n6_; clear n0_ n1_ n2_ n3_ n4_ n5_ n6_; (try clear hb); (try clear ho0); obtain ⟨Ao22, co22, eo22⟩ := Kd.R_slice HO359.out; subst eo22))
 go_loopg [5, 21] k (fun kq v5 v21 w' => ∃ (x5_1 : List (S50)) (x21_1 : Int), v21 = .int .i64 x21_1 ∧ zC (yH.l0 kq x5_1 t357 (t357.length : Int) x21_1 a0_0 a0_1 a0_2 a0_3 l0_4 = some (r1, r2, r3)) ∧ zC (kq ≤ k) ∧ zC (Kd.R k50 50 w' w.heap.size (fun k_ => some k_ ≠ ((.slice Ao22 t357.length co22) : Value).ownBlock ∧ k_ ≠ gb352 ∧ k_ ≠ gb353) v5 x5_1) ∧ zC (Kd.R k50 50 w' w.heap.size (fun k_ => some k_ ≠ (v5 : Value).ownBlock ∧ k_ ≠ gb352 ∧ k_ ≠ gb353) (.slice Ao22 t357.length co22) t357) ∧ zC (w'.heap[gb346]? = some (.cells #[.int .i64 a0_0, .int .i64 a0_1, .int .i64 a0_2, .int .i64 a0_3, (.slice A0_4 l0_4.length c0_4)] 32 (0, 0))) ∧ zC (w'.heap[gb347]? = some (.cells #[.int .i64 0, .int .i64 0, .int .i64 0] 30 (0, 0))) ∧ zC (w'.heap[gb352]? = some (.cells #[.int .i64 t348, .int .i64 t349] 50 (0, 0))) ∧ zC (w'.heap[gb353]? = some (.cells #[.int .i64 t350, .int .i64 t351] 50 (0, 0))) ∧ zC (Below w.heap.size w w'))
 case atStart => exact ⟨(y354), (0), (by first | rfl | (simp; done) | (simp [*]; done)), H', ⟨Nat.le_refl _⟩, ⟨by (with_reducible repeat (first | apply Kd.R_alloc | apply Kd.R_drewN | apply Kd.R_drew)); exact Kd.R_mono HO356.out (fun _ hk => ⟨hk.2, ⟨hk.1.1.2, hk.1.2⟩⟩)⟩, ⟨by (with_reducible repeat (first | apply Kd.R_alloc | apply Kd.R_drewN | apply Kd.R_drew)); exact Kd.R_mono HO359.out (fun _ hk => ⟨hk.1.1.2, ⟨hk.1.2, hk.2⟩⟩)⟩, ⟨by (with_reducible repeat (first | refine zE ?_ _ | refine zI ?_ | refine zD ?_ _)); exact BK346.out⟩, ⟨by (with_reducible repeat (first | refine zE ?_ _ | refine zI ?_ | refine zD ?_ _)); exact BK347.out⟩, ⟨by (with_reducible repeat (first | refine zE ?_ _ | refine zI ?_ | refine zD ?_ _)); exact BK352.out⟩, ⟨by (with_reducible repeat (first | refine zE ?_ _ | refine zI ?_ | refine zD ?_ _)); exact BK353.out⟩, ⟨by repeat (first | (with_reducible first | exact HB.out | apply zG | apply zA | apply zF | refine zH ?_ GE346.out | refine zH ?_ GE347.out | refine zH ?_ GE352.out | refine zH ?_ GE353.out) | exact HB.out)⟩⟩
 case round =>
  clear H'
  try clear c1
  try clear c2
  try clear p2
  try clear c6
  try clear c11
  try clear c12
  try clear c13
  try clear c14
  try clear c15
  try clear c16
  try clear hcz14_0
  try clear hcz14_1
  try clear hcz17_0
  try clear hcz17_1
  try clear hcz20_0
  try clear hcz20_1
  try clear hcz20_2
  try clear hcz20_3
  try clear hcz20_4
  try clear hcz7_0
  try clear hcz7_1
  try clear hcz7_2
  try clear hcz7_3
  try clear hcz7_4
  try clear hfz14_0
  try clear hfz14_1
  try clear hfz17_0
  try clear hfz17_1
  try clear hfz20_0
  try clear hfz20_1
  try clear hfz20_2
  try clear hfz20_3
  try clear hfz20_4
  try clear hfz7_0
  try clear hfz7_1
  try clear hfz7_2
  try clear hfz7_3
  try clear hfz7_4
  obtain ⟨x5_1, x21_1, rfl, HA, HK1, HO_5, HO_19, BK346, BK347, BK352, BK353, HB⟩ := hrel
  cases gk with
  | zero => exact absurd HA.out (by simp [yH.l0])
  | succ k1 =>
   have H := HA.out
   clear HA
   simp only [yH.l0] at H
   by_cases c23 : x21_1 < (t357.length : Int)
   ·
    rw [if_pos c23] at H
    have c23b0 : decide (x21_1 < (t357.length : Int)) = true := decide_eq_true c23
    clear c23
    by_cases c24 : 0 ≤ x21_1
    ·
     rw [if_pos c24] at H
     have c24b0 : decide (0 ≤ x21_1) = true := decide_eq_true c24
     clear c24
     by_cases c25 : x21_1 < (t357.length : Int)
     ·
      rw [if_pos c25] at H
      have c25b0 : decide (x21_1 < (t357.length : Int)) = true := decide_eq_true c25
      clear c25
      replace H := Option.bind_eq_some_iff.mp H
      obtain ⟨⟨t365, t366, t367, t368⟩, A260, H⟩ := H
      replace H : ((yM.f k1 a0_0 a0_1 a0_2 a0_3 l0_4 t365 t366 t367 t368 ((rd_T50 t357 x21_1).f0) ((rd_T50 t357 x21_1).f1)).bind fun t369 => (if t369 = true then (if x5_1.length < 8796093022208 then (yH.l0 k1 (x5_1 ++ [(⟨(rd_T50 t357 x21_1).f0, (rd_T50 t357 x21_1).f1⟩ : S50)]) t357 (t357.length : Int) (wrap64 (x21_1 + 1)) a0_0 a0_1 a0_2 a0_3 l0_4) else (none)) else (yH.l0 k1 x5_1 t357 (t357.length : Int) (wrap64 (x21_1 + 1)) a0_0 a0_1 a0_2 a0_3 l0_4))) = some (r1, r2, r3) := H
      have A26 := zC.mk A260
      clear A260
      replace H := Option.bind_eq_some_iff.mp H
      obtain ⟨t369, A270, H⟩ := H
      replace H : (if t369 = true then (if x5_1.length < 8796093022208 then (yH.l0 k1 (x5_1 ++ [(⟨(rd_T50 t357 x21_1).f0, (rd_T50 t357 x21_1).f1⟩ : S50)]) t357 (t357.length : Int) (wrap64 (x21_1 + 1)) a0_0 a0_1 a0_2 a0_3 l0_4) else (none)) else (yH.l0 k1 x5_1 t357 (t357.length : Int) (wrap64 (x21_1 + 1)) a0_0 a0_1 a0_2 a0_3 l0_4)) = some (r1, r2, r3) := H
      have A27 := zC.mk A270
      clear A270
      have HX28 := zC.mk H
      clear H
      have p363 : 0 ≤ (x21_1 : Int) := of_decide_eq_true (by first | (with_reducible assumption) | assumption)
      have q363 : x21_1 < (t357.length : Int) := of_decide_eq_true (by first | (with_reducible assumption) | assumption)
      obtain ⟨ad363, e363, hx363_0, hx363_1⟩ := at_T50 (Kd.R_reads' HO_19.out).2.2 x21_1 p363 q363
      cases e363
      replace p363 := eq_true p363
      replace q363 := eq_true q363
      try go_wp2_with (first | ((with_reducible refine zQ (N := 7) rfl ?_); refine zO ?hg (N := 7) ?hd (cs := #[.int .i64 0, .int .i64 0]) (t := 50) ?hr ?_; (case hd => rfl); (case hg => rfl); (case hr => first | (go_simp; done) | (go_simp; rfl)); intro gb364 hg w29 hbox hb; have n0_ := zC.mk (Kd.R_below (Kd.R_elderB (by (with_reducible repeat (first | apply Kd.R_alloc | apply Kd.R_drewN | apply Kd.R_drew)); exact HO_5.out) gb364 (Nat.le_of_eq hg.symm)) hb); have n1_ := zC.mk (Kd.R_below (Kd.R_elderB (by (with_reducible repeat (first | apply Kd.R_alloc | apply Kd.R_drewN | apply Kd.R_drew)); exact HO_19.out) gb364 (Nat.le_of_eq hg.symm)) hb); have n2_ := zC.mk (zK (g := gb346) (o := .cells #[.int .i64 a0_0, .int .i64 a0_1, .int .i64 a0_2, .int .i64 a0_3, .slice A0_4 l0_4.length c0_4] 32 (0, 0)) (by (with_reducible repeat (first | refine zE ?_ _ | refine zI ?_ | refine zD ?_ _)); exact BK346.out) hb); have n3_ := zC.mk (zK (g := gb347) (o := .cells #[.int .i64 0, .int .i64 0, .int .i64 0] 30 (0, 0)) (by (with_reducible repeat (first | refine zE ?_ _ | refine zI ?_ | refine zD ?_ _)); exact BK347.out) hb); have n4_ := zC.mk (zK (g := gb352) (o := .cells #[.int .i64 t348, .int .i64 t349] 50 (0, 0)) (by (with_reducible repeat (first | refine zE ?_ _ | refine zI ?_ | refine zD ?_ _)); exact BK352.out) hb); have n5_ := zC.mk (zK (g := gb353) (o := .cells #[.int .i64 t350, .int .i64 t351] 50 (0, 0)) (by (with_reducible repeat (first | refine zE ?_ _ | refine zI ?_ | refine zD ?_ _)); exact BK353.out) hb); have n6_ := zC.mk (zL (by repeat (first | (with_reducible first | exact HB.out | apply zG | apply zA | apply zF | refine zH ?_ GE346.out | refine zH ?_ GE347.out | refine zH ?_ GE352.out | refine zH ?_ GE353.out) | exact HB.out)) hb); have n7_ := zC.mk (hbox); have n8_ := zC.mk ((by rw [hg]; exact (zM (by repeat (first | (with_reducible first | exact HB.out | apply zG | apply zA | apply zF | refine zH ?_ GE346.out | refine zH ?_ GE347.out | refine zH ?_ GE352.out | refine zH ?_ GE353.out) | exact HB.out))) : w.heap.size ≤ gb364)); have n9_ := n8_; have n10_ := zC.mk ((by rw [hg]; exact Nat.ne_of_lt (zV (by (with_reducible repeat (first | refine zE ?_ _ | refine zI ?_ | refine zD ?_ _)); exact BK346.out)) : gb346 ≠ gb364)); have n11_ := zC.mk n10_.out.symm; have n12_ := zC.mk ((by rw [hg]; exact Nat.ne_of_lt (zV (by (with_reducible repeat (first | refine zE ?_ _ | refine zI ?_ | refine zD ?_ _)); exact BK347.out)) : gb347 ≠ gb364)); have n13_ := zC.mk n12_.out.symm; have n14_ := zC.mk ((by rw [hg]; exact Nat.ne_of_lt (zV (by (with_reducible repeat (first | refine zE ?_ _ | refine zI ?_ | refine zD ?_ _)); exact BK352.out)) : gb352 ≠ gb364)); have n15_ := zC.mk n14_.out.symm; have n16_ := zC.mk ((by rw [hg]; exact Nat.ne_of_lt (zV (by (with_reducible repeat (first | refine zE ?_ _ | refine zI ?_ | refine zD ?_ _)); exact BK353.out)) : gb353 ≠ gb364)); have n17_ := zC.mk n16_.out.symm; clear HO_5; clear HO_19; clear BK346; clear BK347; clear BK352; clear BK353; clear HB; have HO_5 := n0_; have HO_19 := n1_; have BK346 := n2_; have BK347 := n3_; have BK352 := n4_; have BK353 := n5_; have HB := n6_; have BK364 := n7_; have GW364 := n8_; have GE364 := n9_; have NB346_364 := n10_; have NB364_346 := n11_; have NB347_364 := n12_; have NB364_347 := n13_; have NB352_364 := n14_; have NB364_352 := n15_; have NB353_364 := n16_; have NB364_353 := n17_; clear n0_ n1_ n2_ n3_ n4_ n5_ n6_ n7_ n8_ n9_ n10_ n11_ n12_ n13_ n14_ n15_ n16_ n17_; clear hb hbox hg; have hnb30 := NB364_346.out; have hnc30 := NB346_364.out; have hnb31 := NB364_347.out; have hnc31 := NB347_364.out; have hnb32 := NB364_352.out; have hnc32 := NB352_364.out; have hnb33 := NB364_353.out; have hnc33 := NB353_364.out; have hcz34_0 : w29.cell? ⟨gb364, 0, none⟩ = some (.int .i64 0) := zB BK364.out 0; have hcz34_1 : w29.cell? ⟨gb364, 1, none⟩ = some (.int .i64 0) := zB BK364.out 1; have hfz34_0 := zJ BK364.out 0; have hfz34_1 := zJ BK364.out 1))
      have n0_ : zC (Kd.R k50 50 ((w29.setCell ⟨gb364, 0, none⟩ (.int .i64 ((rd_T50 t357 x21_1).f0))).setCell ⟨gb364, 1, none⟩ (.int .i64 ((rd_T50 t357 x21_1).f1))) w.heap.size (fun k_ => some k_ ≠ (.slice (some ad363) t357.length co22 : Value).ownBlock ∧ k_ ≠ gb352 ∧ k_ ≠ gb353 ∧ k_ ≠ gb364) u5 x5_1) := ⟨by (with_reducible repeat (first | apply Kd.R_alloc | apply Kd.R_drewN | apply Kd.R_drew)); exact Kd.R_mono (Kd.R_far (p := ⟨gb364, 1, none⟩) (Kd.R_far (p := ⟨gb364, 0, none⟩) (Kd.R_mono HO_5.out (fun k_ hk => (⟨hk, hk.2⟩ : _ ∧ k_ ≠ gb364))) (fun _ hk => hk.2) (.int .i64 ((rd_T50 t357 x21_1).f0))) (fun _ hk => hk.2) (.int .i64 ((rd_T50 t357 x21_1).f1))) (fun _ hk => ⟨hk.1.1.1, ⟨hk.1.1.2.1, ⟨hk.1.1.2.2, hk.1.2⟩⟩⟩)⟩
      have n1_ : zC (Kd.R k50 50 ((w29.setCell ⟨gb364, 0, none⟩ (.int .i64 ((rd_T50 t357 x21_1).f0))).setCell ⟨gb364, 1, none⟩ (.int .i64 ((rd_T50 t357 x21_1).f1))) w.heap.size (fun k_ => some k_ ≠ (u5 : Value).ownBlock ∧ k_ ≠ gb352 ∧ k_ ≠ gb353 ∧ k_ ≠ gb364) (.slice (some ad363) t357.length co22) t357) := ⟨by (with_reducible repeat (first | apply Kd.R_alloc | apply Kd.R_drewN | apply Kd.R_drew)); exact Kd.R_mono (Kd.R_far (p := ⟨gb364, 1, none⟩) (Kd.R_far (p := ⟨gb364, 0, none⟩) (Kd.R_mono HO_19.out (fun k_ hk => (⟨hk, hk.2⟩ : _ ∧ k_ ≠ gb364))) (fun _ hk => hk.2) (.int .i64 ((rd_T50 t357 x21_1).f0))) (fun _ hk => hk.2) (.int .i64 ((rd_T50 t357 x21_1).f1))) (fun _ hk => ⟨hk.1.1.1, ⟨hk.1.1.2.1, ⟨hk.1.1.2.2, hk.1.2⟩⟩⟩)⟩
      have n2_ : zC (((w29.setCell ⟨gb364, 0, none⟩ (.int .i64 ((rd_T50 t357 x21_1).f0))).setCell ⟨gb364, 1, none⟩ (.int .i64 ((rd_T50 t357 x21_1).f1))).heap[gb346]? = some (.cells #[.int .i64 a0_0, .int .i64 a0_1, .int .i64 a0_2, .int .i64 a0_3, .slice A0_4 l0_4.length c0_4] 32 (0, 0))) := ⟨by (with_reducible repeat (first | refine zE ?_ _ | refine zI ?_ | refine zD ?_ _)); refine zU ?_ NB346_364.out _; (with_reducible repeat (first | refine zE ?_ _ | refine zI ?_ | refine zD ?_ _)); refine zU ?_ NB346_364.out _; (with_reducible repeat (first | refine zE ?_ _ | refine zI ?_ | refine zD ?_ _)); exact BK346.out⟩
      have n3_ : zC (((w29.setCell ⟨gb364, 0, none⟩ (.int .i64 ((rd_T50 t357 x21_1).f0))).setCell ⟨gb364, 1, none⟩ (.int .i64 ((rd_T50 t357 x21_1).f1))).heap[gb347]? = some (.cells #[.int .i64 0, .int .i64 0, .int .i64 0] 30 (0, 0))) := ⟨by (with_reducible repeat (first | refine zE ?_ _ | refine zI ?_ | refine zD ?_ _)); refine zU ?_ NB347_364.out _; (with_reducible repeat (first | refine zE ?_ _ | refine zI ?_ | refine zD ?_ _)); refine zU ?_ NB347_364.out _; (with_reducible repeat (first | refine zE ?_ _ | refine zI ?_ | refine zD ?_ _)); exact BK347.out⟩
      have n4_ : zC (((w29.setCell ⟨gb364, 0, none⟩ (.int .i64 ((rd_T50 t357 x21_1).f0))).setCell ⟨gb364, 1, none⟩ (.int .i64 ((rd_T50 t357 x21_1).f1))).heap[gb352]? = some (.cells #[.int .i64 t348, .int .i64 t349] 50 (0, 0))) := ⟨by (with_reducible repeat (first | refine zE ?_ _ | refine zI ?_ | refine zD ?_ _)); refine zU ?_ NB352_364.out _; (with_reducible repeat (first | refine zE ?_ _ | refine zI ?_ | refine zD ?_ _)); refine zU ?_ NB352_364.out _; (with_reducible repeat (first | refine zE ?_ _ | refine zI ?_ | refine zD ?_ _)); exact BK352.out⟩
      have n5_ : zC (((w29.setCell ⟨gb364, 0, none⟩ (.int .i64 ((rd_T50 t357 x21_1).f0))).setCell ⟨gb364, 1, none⟩ (.int .i64 ((rd_T50 t357 x21_1).f1))).heap[gb353]? = some (.cells #[.int .i64 t350, .int .i64 t351] 50 (0, 0))) := ⟨by (with_reducible repeat (first | refine zE ?_ _ | refine zI ?_ | refine zD ?_ _)); refine zU ?_ NB353_364.out _; (with_reducible repeat (first | refine zE ?_ _ | refine zI ?_ | refine zD ?_ _)); refine zU ?_ NB353_364.out _; (with_reducible repeat (first | refine zE ?_ _ | refine zI ?_ | refine zD ?_ _)); exact BK353.out⟩
      have n6_ : zC (((w29.setCell ⟨gb364, 0, none⟩ (.int .i64 ((rd_T50 t357 x21_1).f0))).setCell ⟨gb364, 1, none⟩ (.int .i64 ((rd_T50 t357 x21_1).f1))).heap[gb364]? = some (.cells #[.int .i64 ((rd_T50 t357 x21_1).f0), .int .i64 ((rd_T50 t357 x21_1).f1)] 50 (0, 0))) := ⟨by (with_reducible repeat (first | refine zE ?_ _ | refine zI ?_ | refine zD ?_ _)); refine zS (cs := #[.int .i64 ((rd_T50 t357 x21_1).f0), .int .i64 0]) ?_ 1 _ rfl; (with_reducible repeat (first | refine zE ?_ _ | refine zI ?_ | refine zD ?_ _)); refine zS (cs := #[.int .i64 0, .int .i64 0]) ?_ 0 _ rfl; (with_reducible repeat (first | refine zE ?_ _ | refine zI ?_ | refine zD ?_ _)); exact BK364.out⟩
      have n7_ : zC (Below w.heap.size w ((w29.setCell ⟨gb364, 0, none⟩ (.int .i64 ((rd_T50 t357 x21_1).f0))).setCell ⟨gb364, 1, none⟩ (.int .i64 ((rd_T50 t357 x21_1).f1)))) := ⟨by repeat (first | (with_reducible first | exact HB.out | apply zG | apply zA | apply zF | refine zH ?_ GE346.out | refine zH ?_ GE347.out | refine zH ?_ GE352.out | refine zH ?_ GE353.out | refine zH ?_ GE364.out) | exact HB.out)⟩
      (try clear HO_5)
      (try clear HO_19)
      (try clear BK346)
      (try clear BK347)
      (try clear BK352)
      (try clear BK353)
      (try clear BK364)
      (try clear HB)
      generalize ((w29.setCell ⟨gb364, 0, none⟩ (.int .i64 ((rd_T50 t357 x21_1).f0))).setCell ⟨gb364, 1, none⟩ (.int .i64 ((rd_T50 t357 x21_1).f1))) = w35 at n0_ n1_ n2_ n3_ n4_ n5_ n6_ n7_ ⊢
      have HO_5 := n0_
      have HO_19 := n1_
      have BK346 := n2_
      have BK347 := n3_
      have BK352 := n4_
      have BK353 := n5_
      have BK364 := n6_
      have HB := n7_
      clear n0_ n1_ n2_ n3_ n4_ n5_ n6_ n7_
      have n0_ := zC.mk (Kd.R_drew HO_5.out)
      have n1_ := zC.mk (Kd.R_drew HO_19.out)
      have n2_ := zC.mk (zI BK346.out)
      have n3_ := zC.mk (zI BK347.out)
      have n4_ := zC.mk (zI BK352.out)
      have n5_ := zC.mk (zI BK353.out)
      have n6_ := zC.mk (zI BK364.out)
      have n7_ := zC.mk (zF HB.out)
      clear HO_5
      clear HO_19
      clear BK346
      clear BK347
      clear BK352
      clear BK353
      clear BK364
      clear HB
      have HO_5 := n0_
      have HO_19 := n1_
      have BK346 := n2_
      have BK347 := n3_
      have BK352 := n4_
      have BK353 := n5_
      have BK364 := n6_
      have HB := n7_
      clear n0_ n1_ n2_ n3_ n4_ n5_ n6_ n7_
      refine start_ (n := 5) (S := fun w' => w'.cell? ⟨gb346, 0, none⟩ = some (.int .i64 a0_0) ∧ w'.cell? ⟨gb346, 1, none⟩ = some (.int .i64 a0_1) ∧ w'.cell? ⟨gb346, 2, none⟩ = some (.int .i64 a0_2) ∧ w'.cell? ⟨gb346, 3, none⟩ = some (.int .i64 a0_3) ∧ w'.cell? ⟨gb346, 4, none⟩ = some (.slice A0_4 l0_4.length c0_4) ∧ w'.cell? ⟨gb364, 0, none⟩ = some (.int .i64 ((rd_T50 t357 x21_1).f0)) ∧ w'.cell? ⟨gb364, 1, none⟩ = some (.int .i64 ((rd_T50 t357 x21_1).f1))) (ds := []) #[false, false, false, false, false] (by kernel_rfl) rfl rfl ⟨zB BK346.out 0, zB BK346.out 1, zB BK346.out 2, zB BK346.out 3, zB BK346.out 4, zB BK364.out 0, zB BK364.out 1⟩ (fun hHeld => ?_)
      generalize w35.drew = w36 at HO_5 HO_19 BK346 BK347 BK352 BK353 BK364 HB hHeld ⊢
      refine yC (i := 0) (N := some 25) (v := ?_) (a' := ?_) #[true, false, false, false, false] rfl rfl (by kernel_rfl) (fun _ _ _ h => h) (Or.inl ⟨by rfl, ?_⟩) hHeld ?_ ?_
      rotate_left
      ·
       rintro w' ⟨s0, s1, s2, s3, s4, s5, s6⟩
       go_simp
       with_reducible rfl
      rotate_left
      ·
       simp only [Act.put, List.setIfInBounds_toArray, List.set_cons_zero, List.set_cons_succ, zY, zZ]
       rfl
      refine yC (i := 2) (N := some 27) (v := ?_) (a' := ?_) #[true, false, true, false, false] rfl rfl (by kernel_rfl) (fun _ _ _ h => h) (Or.inl ⟨by rfl, ?_⟩) hHeld ?_ ?_
      rotate_left
      ·
       rintro w' ⟨s0, s1, s2, s3, s4, s5, s6⟩
       go_simp
       with_reducible rfl
      rotate_left
      ·
       simp only [Act.put, List.setIfInBounds_toArray, List.set_cons_zero, List.set_cons_succ, zY, zZ]
       rfl
      refine one_ (i := 1) (N := some 26) #[true, true, true, false, false] rfl rfl (by kernel_rfl) (by decide) (fun K hK => ?_)
      refine yD Try.func168 (by kernel_rfl) rfl #[] (by rfl) rfl rfl (by (try simp only [List.map_toArray, List.map_cons, List.map_nil]); first | done | rfl) ?_
      with_reducible refine (wZ.calls  t365 t366 t367 t368 _ A26.out).mono ?_
      rintro e w37 ⟨rfl, hb⟩
      refine ⟨_, rfl, ?_⟩
      have n0_ := zC.mk (Kd.R_below (by (with_reducible repeat (first | apply Kd.R_alloc | apply Kd.R_drewN | apply Kd.R_drew)); exact HO_5.out) hb)
      have n1_ := zC.mk (Kd.R_below (by (with_reducible repeat (first | apply Kd.R_alloc | apply Kd.R_drewN | apply Kd.R_drew)); exact HO_19.out) hb)
      have n2_ := zC.mk (zK (g := gb346) (o := .cells #[.int .i64 a0_0, .int .i64 a0_1, .int .i64 a0_2, .int .i64 a0_3, .slice A0_4 l0_4.length c0_4] 32 (0, 0)) (by (with_reducible repeat (first | refine zE ?_ _ | refine zI ?_ | refine zD ?_ _)); exact BK346.out) hb)
      have n3_ := zC.mk (zK (g := gb347) (o := .cells #[.int .i64 0, .int .i64 0, .int .i64 0] 30 (0, 0)) (by (with_reducible repeat (first | refine zE ?_ _ | refine zI ?_ | refine zD ?_ _)); exact BK347.out) hb)
      have n4_ := zC.mk (zK (g := gb352) (o := .cells #[.int .i64 t348, .int .i64 t349] 50 (0, 0)) (by (with_reducible repeat (first | refine zE ?_ _ | refine zI ?_ | refine zD ?_ _)); exact BK352.out) hb)
      have n5_ := zC.mk (zK (g := gb353) (o := .cells #[.int .i64 t350, .int .i64 t351] 50 (0, 0)) (by (with_reducible repeat (first | refine zE ?_ _ | refine zI ?_ | refine zD ?_ _)); exact BK353.out) hb)
      have n6_ := zC.mk (zK (g := gb364) (o := .cells #[.int .i64 ((rd_T50 t357 x21_1).f0), .int .i64 ((rd_T50 t357 x21_1).f1)] 50 (0, 0)) (by (with_reducible repeat (first | refine zE ?_ _ | refine zI ?_ | refine zD ?_ _)); exact BK364.out) hb)
      have n7_ := zC.mk (zL (by repeat (first | (with_reducible first | exact HB.out | apply zG | apply zA | apply zF | refine zH ?_ GE346.out | refine zH ?_ GE347.out | refine zH ?_ GE352.out | refine zH ?_ GE353.out | refine zH ?_ GE364.out) | exact HB.out)) hb)
      clear HO_5
      clear HO_19
      clear BK346
      clear BK347
      clear BK352
      clear BK353
      clear BK364
      clear HB
      have HO_5 := n0_
      have HO_19 := n1_
      have BK346 := n2_
      have BK347 := n3_
      have BK352 := n4_
      have BK353 := n5_
      have BK364 := n6_
      have HB := n7_
      clear n0_ n1_ n2_ n3_ n4_ n5_ n6_ n7_
      (try clear hb)
      refine hK.out _ _ ⟨zB BK346.out 0, zB BK346.out 1, zB BK346.out 2, zB BK346.out 3, zB BK346.out 4, zB BK364.out 0, zB BK364.out 1⟩ (fun hHeld => ?_)
      clear hK K
      refine yA (a' := ?_) ?_ ?_
      rotate_left
      ·
       show Act.put _ (some 26) _ = _
       simp only [Act.put, List.setIfInBounds_toArray, List.set_cons_zero, List.set_cons_succ, zY, zZ]
       rfl
      refine zR (i := 3) (N := some 28) (v := ?_) (a' := ?_) #[true, true, true, true, false] rfl rfl (by kernel_rfl) (fun _ _ _ h => h) (Or.inl ⟨by rfl, ?_⟩) ?_ ?_
      rotate_left
      ·
       intro w'
       go_simp
       with_reducible rfl
      rotate_left
      ·
       simp only [Act.put, List.setIfInBounds_toArray, List.set_cons_zero, List.set_cons_succ, zY, zZ]
       rfl
      refine one_ (i := 4) (N := some 29) #[true, true, true, true, true] rfl rfl (by kernel_rfl) (by decide) (fun K hK => ?_)
      refine yD Try.func167 (by kernel_rfl) rfl #[.agg #[.int .i64 a0_0, .int .i64 a0_1, .int .i64 a0_2, .int .i64 a0_3, .slice A0_4 l0_4.length c0_4], .agg #[.int .i64 t365, .int .i64 t366, .int .i64 t367, .int .i64 t368, .int .i64 ((rd_T50 t357 x21_1).f0), .int .i64 ((rd_T50 t357 x21_1).f1)]] (by rfl) rfl rfl (by (try simp only [List.map_toArray, List.map_cons, List.map_nil]); first | done | rfl) ?_
      with_reducible refine (yM.calls k1 a0_0 a0_1 a0_2 a0_3 _ _ l0_4 t365 t366 t367 t368 ((rd_T50 t357 x21_1).f0) ((rd_T50 t357 x21_1).f1) t369 _ ?side1 ?side2 A27.out).mono ?_
      (case side1 => repeat (first | exact (Kd.C_below HR0_4.out HB.out) | (with_reducible refine Kd.C_alloc ?_ _) | (with_reducible refine Kd.C_drewN ?_ _) | (with_reducible refine Kd.C_drew ?_)))
      (case side2 => exact HC0_4.out)
      rintro e w38 ⟨rfl, hb⟩
      refine ⟨_, rfl, ?_⟩
      have n0_ := zC.mk (Kd.R_below (by (with_reducible repeat (first | apply Kd.R_alloc | apply Kd.R_drewN | apply Kd.R_drew)); exact HO_5.out) hb)
      have n1_ := zC.mk (Kd.R_below (by (with_reducible repeat (first | apply Kd.R_alloc | apply Kd.R_drewN | apply Kd.R_drew)); exact HO_19.out) hb)
      have n2_ := zC.mk (zK (g := gb346) (o := .cells #[.int .i64 a0_0, .int .i64 a0_1, .int .i64 a0_2, .int .i64 a0_3, .slice A0_4 l0_4.length c0_4] 32 (0, 0)) (by (with_reducible repeat (first | refine zE ?_ _ | refine zI ?_ | refine zD ?_ _)); exact BK346.out) hb)
      have n3_ := zC.mk (zK (g := gb347) (o := .cells #[.int .i64 0, .int .i64 0, .int .i64 0] 30 (0, 0)) (by (with_reducible repeat (first | refine zE ?_ _ | refine zI ?_ | refine zD ?_ _)); exact BK347.out) hb)
      have n4_ := zC.mk (zK (g := gb352) (o := .cells #[.int .i64 t348, .int .i64 t349] 50 (0, 0)) (by (with_reducible repeat (first | refine zE ?_ _ | refine zI ?_ | refine zD ?_ _)); exact BK352.out) hb)
      have n5_ := zC.mk (zK (g := gb353) (o := .cells #[.int .i64 t350, .int .i64 t351] 50 (0, 0)) (by (with_reducible repeat (first | refine zE ?_ _ | refine zI ?_ | refine zD ?_ _)); exact BK353.out) hb)
      have n6_ := zC.mk (zK (g := gb364) (o := .cells #[.int .i64 ((rd_T50 t357 x21_1).f0), .int .i64 ((rd_T50 t357 x21_1).f1)] 50 (0, 0)) (by (with_reducible repeat (first | refine zE ?_ _ | refine zI ?_ | refine zD ?_ _)); exact BK364.out) hb)
      have n7_ := zC.mk (zL (by repeat (first | (with_reducible first | exact HB.out | apply zG | apply zA | apply zF | refine zH ?_ GE346.out | refine zH ?_ GE347.out | refine zH ?_ GE352.out | refine zH ?_ GE353.out | refine zH ?_ GE364.out) | exact HB.out)) hb)
      clear HO_5
      clear HO_19
      clear BK346
      clear BK347
      clear BK352
      clear BK353
      clear BK364
      clear HB
      have HO_5 := n0_
      have HO_19 := n1_
      have BK346 := n2_
      have BK347 := n3_
      have BK352 := n4_
      have BK353 := n5_
      have BK364 := n6_
      have HB := n7_
      clear n0_ n1_ n2_ n3_ n4_ n5_ n6_ n7_
      (try clear hb)
      refine hK.out _ _ ⟨zB BK346.out 0, zB BK346.out 1, zB BK346.out 2, zB BK346.out 3, zB BK346.out 4, zB BK364.out 0, zB BK364.out 1⟩ (fun hHeld => ?_)
      clear hK K
      refine yA (a' := ?_) ?_ ?_
      rotate_left
      ·
       show Act.put _ (some 29) _ = _
       simp only [Act.put, List.setIfInBounds_toArray, List.set_cons_zero, List.set_cons_succ, zY, zZ]
       rfl
      refine done_ (by kernel_rfl) ?_
      go_upto_if 29 with (fail)
      have H := HX28.out
      clear HX28
      by_cases c39 : t369 = true
      ·
       subst c39
       have H1 : (if x5_1.length < 8796093022208 then (yH.l0 k1 (x5_1 ++ [(⟨(rd_T50 t357 x21_1).f0, (rd_T50 t357 x21_1).f1⟩ : S50)]) t357 (t357.length : Int) (wrap64 (x21_1 + 1)) a0_0 a0_1 a0_2 a0_3 l0_4) else (none)) = some (r1, r2, r3) := by rw [if_pos rfl] at H; exact H
       clear H
       have H := H1
       clear H1
       by_cases c40 : x5_1.length < 8796093022208
       ·
        rw [if_pos c40] at H
        have LMc40 := zC.mk c40
        clear c40
        obtain ⟨y370, hy370⟩ : ∃ y_ : List (S50), y_ = (x5_1 ++ [(⟨(rd_T50 t357 x21_1).f0, (rd_T50 t357 x21_1).f1⟩ : S50)]) := ⟨_, rfl⟩
        replace H : (yH.l0 k1 y370 t357 (t357.length : Int) (wrap64 (x21_1 + 1)) a0_0 a0_1 a0_2 a0_3 l0_4) = some (r1, r2, r3) := by first | (rw [hy370]; with_reducible exact H) | (have H2_ := (Option.bind_some _ _).symm.trans H; rw [hy370]; with_reducible exact H2_) | (have H2_ := (Option.bind_some _ _).symm.trans H; with_reducible exact H2_) | with_reducible exact H | (rw [hy370]; exact H) | exact H
        have Ny370 := zC.mk hy370
        clear hy370
        have H' := zC.mk H
        clear H
        have hnb41 := NB364_346.out
        have hnc41 := NB346_364.out
        have hnb42 := NB364_347.out
        have hnc42 := NB347_364.out
        have hnb43 := NB364_352.out
        have hnc43 := NB352_364.out
        have hnb44 := NB364_353.out
        have hnc44 := NB353_364.out
        have hcz45_0 : w38.cell? ⟨gb364, 0, none⟩ = some (.int .i64 ((rd_T50 t357 x21_1).f0)) := zB BK364.out 0
        have hcz45_1 : w38.cell? ⟨gb364, 1, none⟩ = some (.int .i64 ((rd_T50 t357 x21_1).f1)) := zB BK364.out 1
        have hfz45_0 := zJ BK364.out 0
        have hfz45_1 := zJ BK364.out 1
        go_wp2_with (first | ((with_reducible refine gate_builtin (b := .append) (xs := #[.tmp 30, .tmp 32]) rfl ?_); at_builtin; refine Kd.R_append k50 (w0 := w) w.heap.size rfl (.tmp 30) (.tmp 32) 92 50 (.agg #[(.int .i64 0), (.int .i64 0)]) 16 rfl Try.underlying92 info50 rfl (by decide) (by omega) u5 x5_1 (⟨(rd_T50 t357 x21_1).f0, (rd_T50 t357 x21_1).f1⟩ : S50) [.int .i64 ((rd_T50 t357 x21_1).f0), .int .i64 ((rd_T50 t357 x21_1).f1)] (fun k_ => some k_ ≠ (.slice (some ad363) t357.length co22 : Value).ownBlock ∧ k_ ≠ gb352 ∧ k_ ≠ gb353 ∧ k_ ≠ gb364) (fun _ => False) rfl rfl ?aP (fun _ hk => hk.elim) ?aF ?aO ?aB ?aS ?aL ?_; (case aP => exact k50_mkM _ _ _ (⟨(rd_T50 t357 x21_1).f0, (rd_T50 t357 x21_1).f1⟩ : S50)); (case aB => exact (by repeat (first | (with_reducible first | exact HB.out | apply zG | apply zA | apply zF | refine zH ?_ GE346.out | refine zH ?_ GE347.out | refine zH ?_ GE352.out | refine zH ?_ GE353.out | refine zH ?_ GE364.out) | exact HB.out))); (case aF => exact (fun k_ hk => ⟨Kd.fresh' (Kd.R_lt (by (with_reducible repeat (first | apply Kd.R_alloc | apply Kd.R_drewN | apply Kd.R_drew)); exact HO_19.out)) k_ hk, Kd.freshB (g := gb352) (o := .cells #[.int .i64 t348, .int .i64 t349] 50 (0, 0)) (by (with_reducible repeat (first | refine zE ?_ _ | refine zI ?_ | refine zD ?_ _)); exact BK352.out) k_ hk, Kd.freshB (g := gb353) (o := .cells #[.int .i64 t350, .int .i64 t351] 50 (0, 0)) (by (with_reducible repeat (first | refine zE ?_ _ | refine zI ?_ | refine zD ?_ _)); exact BK353.out) k_ hk, Kd.freshB (g := gb364) (o := .cells #[.int .i64 ((rd_T50 t357 x21_1).f0), .int .i64 ((rd_T50 t357 x21_1).f1)] 50 (0, 0)) (by (with_reducible repeat (first | refine zE ?_ _ | refine zI ?_ | refine zD ?_ _)); exact BK364.out) k_ hk⟩)); (case aO => exact (by (with_reducible repeat (first | apply Kd.R_alloc | apply Kd.R_drewN | apply Kd.R_drew)); exact HO_5.out)); (case aS => exact (zM (by repeat (first | (with_reducible first | exact HB.out | apply zG | apply zA | apply zF | refine zH ?_ GE346.out | refine zH ?_ GE347.out | refine zH ?_ GE352.out | refine zH ?_ GE353.out | refine zH ?_ GE364.out) | exact HB.out)))); (case aL => have := LMc40.out; omega); intro v371 w46 ho hb hg hat; rw [← Ny370.out] at ho; have n0_ := zC.mk (Kd.R_after (ok := (fun k_ => k_ ≠ gb352 ∧ k_ ≠ gb353 ∧ k_ ≠ gb364)) (by (with_reducible repeat (first | apply Kd.R_alloc | apply Kd.R_drewN | apply Kd.R_drew)); exact Kd.R_mono HO_19.out (fun _ hk => ⟨⟨hk.2.1, ⟨hk.2.2.1, hk.2.2.2⟩⟩, hk.1⟩)) hg hat); have n1_ := zC.mk (blk_grown (g := gb346) (o := .cells #[.int .i64 a0_0, .int .i64 a0_1, .int .i64 a0_2, .int .i64 a0_3, .slice A0_4 l0_4.length c0_4] 32 (0, 0)) (by (with_reducible repeat (first | refine zE ?_ _ | refine zI ?_ | refine zD ?_ _)); exact BK346.out) hg (Kd.R_ne HO_5.out BK346.out (by decide))); have n2_ := zC.mk (blk_grown (g := gb347) (o := .cells #[.int .i64 0, .int .i64 0, .int .i64 0] 30 (0, 0)) (by (with_reducible repeat (first | refine zE ?_ _ | refine zI ?_ | refine zD ?_ _)); exact BK347.out) hg (Kd.R_ne HO_5.out BK347.out (by decide))); have n3_ := zC.mk (blk_grown (g := gb352) (o := .cells #[.int .i64 t348, .int .i64 t349] 50 (0, 0)) (by (with_reducible repeat (first | refine zE ?_ _ | refine zI ?_ | refine zD ?_ _)); exact BK352.out) hg (Kd.R_away HO_5.out (fun _ hk => hk.2.1))); have n4_ := zC.mk (blk_grown (g := gb353) (o := .cells #[.int .i64 t350, .int .i64 t351] 50 (0, 0)) (by (with_reducible repeat (first | refine zE ?_ _ | refine zI ?_ | refine zD ?_ _)); exact BK353.out) hg (Kd.R_away HO_5.out (fun _ hk => hk.2.2.1))); have n5_ := zC.mk (blk_grown (g := gb364) (o := .cells #[.int .i64 ((rd_T50 t357 x21_1).f0), .int .i64 ((rd_T50 t357 x21_1).f1)] 50 (0, 0)) (by (with_reducible repeat (first | refine zE ?_ _ | refine zI ?_ | refine zD ?_ _)); exact BK364.out) hg (Kd.R_away HO_5.out (fun _ hk => hk.2.2.2))); have n6_ := zC.mk (hb); have n7_ := zC.mk (ho); clear HO_19; clear BK346; clear BK347; clear BK352; clear BK353; clear BK364; clear HB; clear HO_5; have HO_19 := n0_; have BK346 := n1_; have BK347 := n2_; have BK352 := n3_; have BK353 := n4_; have BK364 := n5_; have HB := n6_; have HO372 := n7_; clear n0_ n1_ n2_ n3_ n4_ n5_ n6_ n7_; clear ho hb hg hat))
        go_roundg k1
        case measure => have := HK1.out; omega
        case rel => exact ⟨(y370), (wrap64 (x21_1 + 1)), (by first | rfl | (simp; done) | (simp [*]; done)), H', ⟨by have := HK1.out; omega⟩, ⟨by (with_reducible repeat (first | apply Kd.R_alloc | apply Kd.R_drewN | apply Kd.R_drew)); exact Kd.R_mono HO372.out (fun _ hk => ⟨hk.1, ⟨hk.2.1, hk.2.2.1⟩⟩)⟩, ⟨by (with_reducible repeat (first | apply Kd.R_alloc | apply Kd.R_drewN | apply Kd.R_drew)); exact Kd.R_mono HO_19.out (fun _ hk => ⟨hk.2, ⟨hk.1.1, hk.1.2.1⟩⟩)⟩, ⟨by (with_reducible repeat (first | refine zE ?_ _ | refine zI ?_ | refine zD ?_ _)); exact BK346.out⟩, ⟨by (with_reducible repeat (first | refine zE ?_ _ | refine zI ?_ | refine zD ?_ _)); exact BK347.out⟩, ⟨by (with_reducible repeat (first | refine zE ?_ _ | refine zI ?_ | refine zD ?_ _)); exact BK352.out⟩, ⟨by (with_reducible repeat (first | refine zE ?_ _ | refine zI ?_ | refine zD ?_ _)); exact BK353.out⟩, ⟨by repeat (first | (with_reducible first | exact HB.out | apply zG | apply zA | apply zF | refine zH ?_ GE346.out | refine zH ?_ GE347.out | refine zH ?_ GE352.out | refine zH ?_ GE353.out | refine zH ?_ GE364.out) | exact HB.out)⟩⟩
       ·
        rw [if_neg c40] at H
        exact absurd H (by simp)
      ·
       replace c39 := Bool.eq_false_iff.mpr c39
       subst c39
       have H1 : (yH.l0 k1 x5_1 t357 (t357.length : Int) (wrap64 (x21_1 + 1)) a0_0 a0_1 a0_2 a0_3 l0_4) = some (r1, r2, r3) := by rw [if_neg (show ¬ (false = true) by decide)] at H; exact H
       clear H
       have H := H1
       clear H1
       have H' := zC.mk H
       clear H
       go_wp2
       go_roundg k1
       case measure => have := HK1.out; omega
       case rel => exact ⟨(x5_1), (wrap64 (x21_1 + 1)), (by first | rfl | (simp; done) | (simp [*]; done)), H', ⟨by have := HK1.out; omega⟩, ⟨by (with_reducible repeat (first | apply Kd.R_alloc | apply Kd.R_drewN | apply Kd.R_drew)); exact Kd.R_mono HO_5.out (fun _ hk => ⟨hk.1, ⟨hk.2.1, hk.2.2.1⟩⟩)⟩, ⟨by (with_reducible repeat (first | apply Kd.R_alloc | apply Kd.R_drewN | apply Kd.R_drew)); exact Kd.R_mono HO_19.out (fun _ hk => ⟨hk.1, ⟨hk.2.1, hk.2.2.1⟩⟩)⟩, ⟨by (with_reducible repeat (first | refine zE ?_ _ | refine zI ?_ | refine zD ?_ _)); exact BK346.out⟩, ⟨by (with_reducible repeat (first | refine zE ?_ _ | refine zI ?_ | refine zD ?_ _)); exact BK347.out⟩, ⟨by (with_reducible repeat (first | refine zE ?_ _ | refine zI ?_ | refine zD ?_ _)); exact BK352.out⟩, ⟨by (with_reducible repeat (first | refine zE ?_ _ | refine zI ?_ | refine zD ?_ _)); exact BK353.out⟩, ⟨by repeat (first | (with_reducible first | exact HB.out | apply zG | apply zA | apply zF | refine zH ?_ GE346.out | refine zH ?_ GE347.out | refine zH ?_ GE352.out | refine zH ?_ GE353.out | refine zH ?_ GE364.out) | exact HB.out)⟩⟩
     ·
      rw [if_neg c25] at H
      exact absurd H (by simp)
    ·
     rw [if_neg c24] at H
     exact absurd H (by simp)
   ·
    rw [if_neg c23] at H
    have c23b0 : decide (x21_1 < (t357.length : Int)) = false := decide_eq_false c23
    clear c23
    replace H := Option.bind_eq_some_iff.mp H
    obtain ⟨⟨t360, t361, t362⟩, A470, H⟩ := H
    replace H : (some (t360, t361, t362)) = some (r1, r2, r3) := H
    have A47 := zC.mk A470
    clear A470
    simp only [Option.some.injEq, Prod.mk.injEq] at H
    obtain ⟨rfl, rfl, rfl⟩ := H
    obtain ⟨Ao48, co48, eo48⟩ := Kd.R_slice HO_5.out
    subst eo48
    go_wp2_with (first | ((with_reducible refine zP (f := 169) rfl ?_); refine zX (some 36) rfl rfl Try.func169 (by kernel_rfl) rfl #[.slice Ao48 x5_1.length co48] rfl (by (try simp only [List.map_toArray, List.map_cons, List.map_nil]); first | done | rfl) ?_; (with_reducible refine (yI.calls k1 _ _ x5_1 t360 t361 t362 _ ?side1 ?side2 A47.out).mono ?_); (case side1 => repeat (first | exact (Kd.R_reads' HO_5.out).2.2 | (with_reducible refine Kd.C_alloc ?_ _) | (with_reducible refine Kd.C_drewN ?_ _) | (with_reducible refine Kd.C_drew ?_))); (case side2 => exact (Kd.R_reads' HO_5.out).2.1); rintro e w49 ⟨rfl, hb⟩; refine ⟨_, rfl, ?_⟩; have n0_ := zC.mk (Kd.R_below (by (with_reducible repeat (first | apply Kd.R_alloc | apply Kd.R_drewN | apply Kd.R_drew)); exact HO_5.out) hb); have n1_ := zC.mk (Kd.R_below (by (with_reducible repeat (first | apply Kd.R_alloc | apply Kd.R_drewN | apply Kd.R_drew)); exact HO_19.out) hb); have n2_ := zC.mk (zK (g := gb346) (o := .cells #[.int .i64 a0_0, .int .i64 a0_1, .int .i64 a0_2, .int .i64 a0_3, .slice A0_4 l0_4.length c0_4] 32 (0, 0)) (by (with_reducible repeat (first | refine zE ?_ _ | refine zI ?_ | refine zD ?_ _)); exact BK346.out) hb); have n3_ := zC.mk (zK (g := gb347) (o := .cells #[.int .i64 0, .int .i64 0, .int .i64 0] 30 (0, 0)) (by (with_reducible repeat (first | refine zE ?_ _ | refine zI ?_ | refine zD ?_ _)); exact BK347.out) hb); have n4_ := zC.mk (zK (g := gb352) (o := .cells #[.int .i64 t348, .int .i64 t349] 50 (0, 0)) (by (with_reducible repeat (first | refine zE ?_ _ | refine zI ?_ | refine zD ?_ _)); exact BK352.out) hb); have n5_ := zC.mk (zK (g := gb353) (o := .cells #[.int .i64 t350, .int .i64 t351] 50 (0, 0)) (by (with_reducible repeat (first | refine zE ?_ _ | refine zI ?_ | refine zD ?_ _)); exact BK353.out) hb); have n6_ := zC.mk (zL (by repeat (first | (with_reducible first | exact HB.out | apply zG | apply zA | apply zF | refine zH ?_ GE346.out | refine zH ?_ GE347.out | refine zH ?_ GE352.out | refine zH ?_ GE353.out) | exact HB.out)) hb); clear HO_5; clear HO_19; clear BK346; clear BK347; clear BK352; clear BK353; clear HB; have HO_5 := n0_; have HO_19 := n1_; have BK346 := n2_; have BK347 := n3_; have BK352 := n4_; have BK353 := n5_; have HB := n6_; clear n0_ n1_ n2_ n3_ n4_ n5_ n6_; (try clear hb); have hnb50 := NB347_346.out; have hnc50 := NB346_347.out; have hnb51 := NB347_352.out; have hnc51 := NB352_347.out; have hnb52 := NB347_353.out; have hnc52 := NB353_347.out; have hcz53_0 : w49.cell? ⟨gb347, 0, none⟩ = some (.int .i64 0) := zB BK347.out 0; have hcz53_1 : w49.cell? ⟨gb347, 1, none⟩ = some (.int .i64 0) := zB BK347.out 1; have hcz53_2 : w49.cell? ⟨gb347, 2, none⟩ = some (.int .i64 0) := zB BK347.out 2; have hfz53_0 := zJ BK347.out 0; have hfz53_1 := zJ BK347.out 1; have hfz53_2 := zJ BK347.out 2))
    refine bodyPost_ret (results_cell_row rfl _ _ gb347 30 #[.int .i64 t360, .int .i64 t361, .int .i64 t362] (0, 0) _ rfl (by (with_reducible repeat (first | refine zE ?_ _ | refine zI ?_ | refine zD ?_ _)); refine zS (cs := #[.int .i64 t360, .int .i64 t361, .int .i64 0]) ?_ 2 _ rfl; (with_reducible repeat (first | refine zE ?_ _ | refine zI ?_ | refine zD ?_ _)); refine zS (cs := #[.int .i64 t360, .int .i64 0, .int .i64 0]) ?_ 1 _ rfl; (with_reducible repeat (first | refine zE ?_ _ | refine zI ?_ | refine zD ?_ _)); refine zS (cs := #[.int .i64 0, .int .i64 0, .int .i64 0]) ?_ 0 _ rfl; (with_reducible repeat (first | refine zE ?_ _ | refine zI ?_ | refine zD ?_ _)); exact BK347.out) Try.underlying30 rfl (by kernel_rfl)) rfl ?_
    exact ⟨by first | rfl | (simp [*, errW_none, errW_some] <;> rfl), by repeat (first | (with_reducible first | exact HB.out | apply zG | apply zA | apply zF | refine zH ?_ GE346.out | refine zH ?_ GE347.out | refine zH ?_ GE352.out | refine zH ?_ GE353.out) | exact HB.out)⟩
theorem xK.calls (k : Nat) (a0_0 : Int) (a0_1 : Int) (a0_2 : Int) (a0_3 : Int) (A0_4 : Option Addr) (c0_4 : Nat) (l0_4 : List Int) (r1 : Int) (r2 : Int) (r3 : Int) (r4 : Int) (w : World) (hr0_4 : Kd.C (Kd.int .i64) w A0_4 l0_4.length l0_4) (hc0_4 : l0_4.length ≤ c0_4) (h : xK.f k a0_0 a0_1 a0_2 a0_3 l0_4 = some (r1, r2, r3, r4)) :
  Calls Try.prog 94 #[.agg #[.int .i64 a0_0, .int .i64 a0_1, .int .i64 a0_2, .int .i64 a0_3, .slice A0_4 l0_4.length c0_4]] w fun e w' => e = .returned (.tuple #[.agg #[.int .i64 r1, .int .i64 r2, .int .i64 r3], .int .i64 r4]) ∧ Below w.heap.size w w' := by
 have hu32 := Try.underlying32
 have hu30 := Try.underlying30
 have HR0_4 := zC.mk hr0_4
 have HC0_4 := zC.mk hc0_4
 clear hr0_4 hc0_4
 have HB := zC.mk (Below.refl w.heap.size w)
 have H : ((xQ.f a0_0 a0_1 a0_2 a0_3 l0_4).bind fun t375 => (if t375 = true then (if a0_0 = 0 then ((yH.f k a0_0 a0_1 a0_2 a0_3 l0_4).bind fun bt376 => (some (bt376.1, bt376.2.1, bt376.2.2, 0))) else (some (0, 0, 0, 1))) else (some (0, 0, 0, 1)))) = some (r1, r2, r3, r4) := h
 clear h
 replace H := Option.bind_eq_some_iff.mp H
 obtain ⟨t375, A20, H⟩ := H
 replace H : (if t375 = true then (if a0_0 = 0 then ((yH.f k a0_0 a0_1 a0_2 a0_3 l0_4).bind fun bt376 => (some (bt376.1, bt376.2.1, bt376.2.2, 0))) else (some (0, 0, 0, 1))) else (some (0, 0, 0, 1))) = some (r1, r2, r3, r4) := H
 have A2 := zC.mk A20
 clear A20
 by_cases c3 : t375 = true
 ·
  subst c3
  have H1 : (if a0_0 = 0 then ((yH.f k a0_0 a0_1 a0_2 a0_3 l0_4).bind fun bt376 => (some (bt376.1, bt376.2.1, bt376.2.2, 0))) else (some (0, 0, 0, 1))) = some (r1, r2, r3, r4) := by rw [if_pos rfl] at H; exact H
  clear H
  have H := H1
  clear H1
  have HX4 := zC.mk H
  clear H
  go_enter Try.func94, Try.ntmps94
  go_upto_if 11 with (first | ((with_reducible refine zQ (N := 1) rfl ?_); refine zO ?hg (N := 1) ?hd (cs := #[.int .i64 a0_0, .int .i64 a0_1, .int .i64 a0_2, .int .i64 a0_3, .slice A0_4 l0_4.length c0_4]) (t := 32) ?hr ?_; (case hd => rfl); (case hg => rfl); (case hr => first | (go_simp; done) | (go_simp; rfl)); intro gb373 hg w5 hbox hb; have n0_ := zC.mk (zL (by repeat (first | (with_reducible first | exact HB.out | apply zG | apply zA | apply zF) | exact HB.out)) hb); have n1_ := zC.mk (hbox); have n2_ := zC.mk ((by rw [hg]; exact (zM (by repeat (first | (with_reducible first | exact HB.out | apply zG | apply zA | apply zF) | exact HB.out))) : w.heap.size ≤ gb373)); have n3_ := n2_; clear HB; have HB := n0_; have BK373 := n1_; have GW373 := n2_; have GE373 := n3_; clear n0_ n1_ n2_ n3_; clear hb hbox hg) | ((with_reducible refine zQ (N := 2) rfl ?_); refine zO ?hg (N := 2) ?hd (cs := #[.int .i64 0, .int .i64 0, .int .i64 0]) (t := 30) ?hr ?_; (case hd => rfl); (case hg => rfl); (case hr => first | (go_simp; done) | (go_simp; rfl)); intro gb374 hg w6 hbox hb; have n0_ := zC.mk (zK (g := gb373) (o := .cells #[.int .i64 a0_0, .int .i64 a0_1, .int .i64 a0_2, .int .i64 a0_3, .slice A0_4 l0_4.length c0_4] 32 (0, 0)) (by (with_reducible repeat (first | refine zE ?_ _ | refine zI ?_ | refine zD ?_ _)); exact BK373.out) hb); have n1_ := zC.mk (zL (by repeat (first | (with_reducible first | exact HB.out | apply zG | apply zA | apply zF | refine zH ?_ GE373.out) | exact HB.out)) hb); have n2_ := zC.mk (hbox); have n3_ := zC.mk ((by rw [hg]; exact (zM (by repeat (first | (with_reducible first | exact HB.out | apply zG | apply zA | apply zF | refine zH ?_ GE373.out) | exact HB.out))) : w.heap.size ≤ gb374)); have n4_ := n3_; have n5_ := zC.mk ((by rw [hg]; exact Nat.ne_of_lt (zV (by (with_reducible repeat (first | refine zE ?_ _ | refine zI ?_ | refine zD ?_ _)); exact BK373.out)) : gb373 ≠ gb374)); have n6_ := zC.mk n5_.out.symm; clear BK373; clear HB; have BK373 := n0_; have HB := n1_; have BK374 := n2_; have GW374 := n3_; have GE374 := n4_; have NB373_374 := n5_; have NB374_373 := n6_; clear n0_ n1_ n2_ n3_ n4_ n5_ n6_; clear hb hbox hg; have hnb7 := NB373_374.out; have hnc7 := NB374_373.out; have hcz8_0 : w6.cell? ⟨gb373, 0, none⟩ = some (.int .i64 a0_0) := zB BK373.out 0; have hcz8_1 : w6.cell? ⟨gb373, 1, none⟩ = some (.int .i64 a0_1) := zB BK373.out 1; have hcz8_2 : w6.cell? ⟨gb373, 2, none⟩ = some (.int .i64 a0_2) := zB BK373.out 2; have hcz8_3 : w6.cell? ⟨gb373, 3, none⟩ = some (.int .i64 a0_3) := zB BK373.out 3; have hcz8_4 : w6.cell? ⟨gb373, 4, none⟩ = some (.slice A0_4 l0_4.length c0_4) := zB BK373.out 4; have hfz8_0 := zJ BK373.out 0; have hfz8_1 := zJ BK373.out 1; have hfz8_2 := zJ BK373.out 2; have hfz8_3 := zJ BK373.out 3; have hfz8_4 := zJ BK373.out 4) | ((with_reducible refine zP (f := 131) rfl ?_); refine zX (some 5) rfl rfl Try.func131 (by kernel_rfl) rfl #[.agg #[.int .i64 a0_0, .int .i64 a0_1, .int .i64 a0_2, .int .i64 a0_3, .slice A0_4 l0_4.length c0_4]] rfl (by (try simp only [List.map_toArray, List.map_cons, List.map_nil]); first | done | rfl) ?_; (with_reducible refine (xQ.calls a0_0 a0_1 a0_2 a0_3 _ _ l0_4 true _ ?side1 ?side2 A2.out).mono ?_); (case side1 => repeat (first | exact (Kd.C_below HR0_4.out HB.out) | (with_reducible refine Kd.C_alloc ?_ _) | (with_reducible refine Kd.C_drewN ?_ _) | (with_reducible refine Kd.C_drew ?_))); (case side2 => exact HC0_4.out); rintro e w9 ⟨rfl, hb⟩; refine ⟨_, rfl, ?_⟩; have n0_ := zC.mk (zK (g := gb373) (o := .cells #[.int .i64 a0_0, .int .i64 a0_1, .int .i64 a0_2, .int .i64 a0_3, .slice A0_4 l0_4.length c0_4] 32 (0, 0)) (by (with_reducible repeat (first | refine zE ?_ _ | refine zI ?_ | refine zD ?_ _)); exact BK373.out) hb); have n1_ := zC.mk (zK (g := gb374) (o := .cells #[.int .i64 0, .int .i64 0, .int .i64 0] 30 (0, 0)) (by (with_reducible repeat (first | refine zE ?_ _ | refine zI ?_ | refine zD ?_ _)); exact BK374.out) hb); have n2_ := zC.mk (zL (by repeat (first | (with_reducible first | exact HB.out | apply zG | apply zA | apply zF | refine zH ?_ GE373.out | refine zH ?_ GE374.out) | exact HB.out)) hb); clear BK373; clear BK374; clear HB; have BK373 := n0_; have BK374 := n1_; have HB := n2_; clear n0_ n1_ n2_; (try clear hb); have hcz10_0 : w9.cell? ⟨gb373, 0, none⟩ = some (.int .i64 a0_0) := zB BK373.out 0; have hcz10_1 : w9.cell? ⟨gb373, 1, none⟩ = some (.int .i64 a0_1) := zB BK373.out 1; have hcz10_2 : w9.cell? ⟨gb373, 2, none⟩ = some (.int .i64 a0_2) := zB BK373.out 2; have hcz10_3 : w9.cell? ⟨gb373, 3, none⟩ = some (.int .i64 a0_3) := zB BK373.out 3; have hcz10_4 : w9.cell? ⟨gb373, 4, none⟩ = some (.slice A0_4 l0_4.length c0_4) := zB BK373.out 4; have hfz10_0 := zJ BK373.out 0; have hfz10_1 := zJ BK373.out 1; have hfz10_2 := zJ BK373.out 2; have hfz10_3 := zJ BK373.out 3; have hfz10_4 := zJ BK373.out 4))
  have H := HX4.out
  clear HX4
  by_cases c11 : a0_0 = 0
  ·
   rw [if_pos c11] at H
   have c11b0 : (a0_0 == 0) = true := beq_iff_eq.mpr c11
   have c11b1 : (a0_0 != 0) = false := bne_eq_false_iff_eq.mpr c11
   clear c11
   (first | rw [c11b0] | (simp only [zY, zZ]; rw [c11b0]) | skip)
   replace H := Option.bind_eq_some_iff.mp H
   obtain ⟨⟨t376, t377, t378⟩, A120, H⟩ := H
   replace H : (some (t376, t377, t378, 0)) = some (r1, r2, r3, r4) := H
   have A12 := zC.mk A120
   clear A120
   simp only [Option.some.injEq, Prod.mk.injEq] at H
   obtain ⟨rfl, rfl, rfl, rfl⟩ := H
   have hnb13 := NB373_374.out
   have hnc13 := NB374_373.out
   have hcz14_0 : w9.cell? ⟨gb373, 0, none⟩ = some (.int .i64 a0_0) := zB BK373.out 0
   have hcz14_1 : w9.cell? ⟨gb373, 1, none⟩ = some (.int .i64 a0_1) := zB BK373.out 1
   have hcz14_2 : w9.cell? ⟨gb373, 2, none⟩ = some (.int .i64 a0_2) := zB BK373.out 2
   have hcz14_3 : w9.cell? ⟨gb373, 3, none⟩ = some (.int .i64 a0_3) := zB BK373.out 3
   have hcz14_4 : w9.cell? ⟨gb373, 4, none⟩ = some (.slice A0_4 l0_4.length c0_4) := zB BK373.out 4
   have hfz14_0 := zJ BK373.out 0
   have hfz14_1 := zJ BK373.out 1
   have hfz14_2 := zJ BK373.out 2
   have hfz14_3 := zJ BK373.out 3
   have hfz14_4 := zJ BK373.out 4
   go_wp2_with (first | ((with_reducible refine zP (f := 132) rfl ?_); refine zX (some 14) rfl rfl Try.func132 (by kernel_rfl) rfl #[.agg #[.int .i64 a0_0, .int .i64 a0_1, .int .i64 a0_2, .int .i64 a0_3, .slice A0_4 l0_4.length c0_4]] rfl (by (try simp only [List.map_toArray, List.map_cons, List.map_nil]); first | done | rfl) ?_; (with_reducible refine (yH.calls k a0_0 a0_1 a0_2 a0_3 _ _ l0_4 t376 t377 t378 _ ?side1 ?side2 A12.out).mono ?_); (case side1 => repeat (first | exact (Kd.C_below HR0_4.out HB.out) | (with_reducible refine Kd.C_alloc ?_ _) | (with_reducible refine Kd.C_drewN ?_ _) | (with_reducible refine Kd.C_drew ?_))); (case side2 => exact HC0_4.out); rintro e w15 ⟨rfl, hb⟩; refine ⟨_, rfl, ?_⟩; have n0_ := zC.mk (zK (g := gb373) (o := .cells #[.int .i64 a0_0, .int .i64 a0_1, .int .i64 a0_2, .int .i64 a0_3, .slice A0_4 l0_4.length c0_4] 32 (0, 0)) (by (with_reducible repeat (first | refine zE ?_ _ | refine zI ?_ | refine zD ?_ _)); exact BK373.out) hb); have n1_ := zC.mk (zK (g := gb374) (o := .cells #[.int .i64 0, .int .i64 0, .int .i64 0] 30 (0, 0)) (by (with_reducible repeat (first | refine zE ?_ _ | refine zI ?_ | refine zD ?_ _)); exact BK374.out) hb); have n2_ := zC.mk (zL (by repeat (first | (with_reducible first | exact HB.out | apply zG | apply zA | apply zF | refine zH ?_ GE373.out | refine zH ?_ GE374.out) | exact HB.out)) hb); clear BK373; clear BK374; clear HB; have BK373 := n0_; have BK374 := n1_; have HB := n2_; clear n0_ n1_ n2_; (try clear hb); have hcz16_0 : w15.cell? ⟨gb374, 0, none⟩ = some (.int .i64 0) := zB BK374.out 0; have hcz16_1 : w15.cell? ⟨gb374, 1, none⟩ = some (.int .i64 0) := zB BK374.out 1; have hcz16_2 : w15.cell? ⟨gb374, 2, none⟩ = some (.int .i64 0) := zB BK374.out 2; have hfz16_0 := zJ BK374.out 0; have hfz16_1 := zJ BK374.out 1; have hfz16_2 := zJ BK374.out 2))
   refine bodyPost_ret (results_ct rfl _ _ gb374 30 #[.int .i64 t376, .int .i64 t377, .int .i64 t378] (0, 0) _ rfl (by (with_reducible repeat (first | refine zE ?_ _ | refine zI ?_ | refine zD ?_ _)); refine zS (cs := #[.int .i64 t376, .int .i64 t377, .int .i64 0]) ?_ 2 _ rfl; (with_reducible repeat (first | refine zE ?_ _ | refine zI ?_ | refine zD ?_ _)); refine zS (cs := #[.int .i64 t376, .int .i64 0, .int .i64 0]) ?_ 1 _ rfl; (with_reducible repeat (first | refine zE ?_ _ | refine zI ?_ | refine zD ?_ _)); refine zS (cs := #[.int .i64 0, .int .i64 0, .int .i64 0]) ?_ 0 _ rfl; (with_reducible repeat (first | refine zE ?_ _ | refine zI ?_ | refine zD ?_ _)); exact BK374.out) Try.underlying30 rfl (by kernel_rfl)) rfl ?_
   exact ⟨by first | rfl | (simp [*, errW_none, errW_some] <;> rfl), by repeat (first | (with_reducible first | exact HB.out | apply zG | apply zA | apply zF | refine zH ?_ GE373.out | refine zH ?_ GE374.out) | exact HB.out)⟩
  ·
   rw [if_neg c11] at H
   have c11b0 : (a0_0 == 0) = false := beq_eq_false_iff_ne.mpr c11
   have c11b1 : (a0_0 != 0) = true := bne_iff_ne.mpr c11
   (first | rw [c11b0] | (simp only [zY, zZ]; rw [c11b0]) | skip)
   simp only [Option.some.injEq, Prod.mk.injEq] at H
   obtain ⟨rfl, rfl, rfl, rfl⟩ := H
   have hnb17 := NB374_373.out
   have hnc17 := NB373_374.out
   have hcz18_0 : w9.cell? ⟨gb374, 0, none⟩ = some (.int .i64 0) := zB BK374.out 0
   have hcz18_1 : w9.cell? ⟨gb374, 1, none⟩ = some (.int .i64 0) := zB BK374.out 1
   have hcz18_2 : w9.cell? ⟨gb374, 2, none⟩ = some (.int .i64 0) := zB BK374.out 2
   have hfz18_0 := zJ BK374.out 0
   have hfz18_1 := zJ BK374.out 1
   have hfz18_2 := zJ BK374.out 2
   go_wp2
   refine bodyPost_ret (results_ct rfl _ _ gb374 30 #[.int .i64 0, .int .i64 0, .int .i64 0] (0, 0) _ rfl (by (with_reducible repeat (first | refine zE ?_ _ | refine zI ?_ | refine zD ?_ _)); refine zS (cs := #[.int .i64 0, .int .i64 0, .int .i64 0]) ?_ 2 _ rfl; (with_reducible repeat (first | refine zE ?_ _ | refine zI ?_ | refine zD ?_ _)); refine zS (cs := #[.int .i64 0, .int .i64 0, .int .i64 0]) ?_ 1 _ rfl; (with_reducible repeat (first | refine zE ?_ _ | refine zI ?_ | refine zD ?_ _)); refine zS (cs := #[.int .i64 0, .int .i64 0, .int .i64 0]) ?_ 0 _ rfl; (with_reducible repeat (first | refine zE ?_ _ | refine zI ?_ | refine zD ?_ _)); exact BK374.out) Try.underlying30 rfl (by kernel_rfl)) rfl ?_
   exact ⟨by first | rfl | (simp [*, errW_none, errW_some] <;> rfl), by repeat (first | (with_reducible first | exact HB.out | apply zG | apply zA | apply zF | refine zH ?_ GE373.out | refine zH ?_ GE374.out) | exact HB.out)⟩
 ·
  replace c3 := Bool.eq_false_iff.mpr c3
  subst c3
  have H1 : (some (0, 0, 0, 1)) = some (r1, r2, r3, r4) := by rw [if_neg (show ¬ (false = true) by decide)] at H; exact H
  clear H
  have H := H1
  clear H1
  simp only [Option.some.injEq, Prod.mk.injEq] at H
  obtain ⟨rfl, rfl, rfl, rfl⟩ := H
  go_enter Try.func94, Try.ntmps94
  go_wp2_with (first | ((with_reducible refine zQ (N := 1) rfl ?_); refine zO ?hg (N := 1) ?hd (cs := #[.int .i64 a0_0, .int .i64 a0_1, .int .i64 a0_2, .int .i64 a0_3, .slice A0_4 l0_4.length c0_4]) (t := 32) ?hr ?_; (case hd => rfl); (case hg => rfl); (case hr => first | (go_simp; done) | (go_simp; rfl)); intro gb373 hg w19 hbox hb; have n0_ := zC.mk (zL (by repeat (first | (with_reducible first | exact HB.out | apply zG | apply zA | apply zF) | exact HB.out)) hb); have n1_ := zC.mk (hbox); have n2_ := zC.mk ((by rw [hg]; exact (zM (by repeat (first | (with_reducible first | exact HB.out | apply zG | apply zA | apply zF) | exact HB.out))) : w.heap.size ≤ gb373)); have n3_ := n2_; clear HB; have HB := n0_; have BK373 := n1_; have GW373 := n2_; have GE373 := n3_; clear n0_ n1_ n2_ n3_; clear hb hbox hg) | ((with_reducible refine zQ (N := 2) rfl ?_); refine zO ?hg (N := 2) ?hd (cs := #[.int .i64 0, .int .i64 0, .int .i64 0]) (t := 30) ?hr ?_; (case hd => rfl); (case hg => rfl); (case hr => first | (go_simp; done) | (go_simp; rfl)); intro gb374 hg w20 hbox hb; have n0_ := zC.mk (zK (g := gb373) (o := .cells #[.int .i64 a0_0, .int .i64 a0_1, .int .i64 a0_2, .int .i64 a0_3, .slice A0_4 l0_4.length c0_4] 32 (0, 0)) (by (with_reducible repeat (first | refine zE ?_ _ | refine zI ?_ | refine zD ?_ _)); exact BK373.out) hb); have n1_ := zC.mk (zL (by repeat (first | (with_reducible first | exact HB.out | apply zG | apply zA | apply zF | refine zH ?_ GE373.out) | exact HB.out)) hb); have n2_ := zC.mk (hbox); have n3_ := zC.mk ((by rw [hg]; exact (zM (by repeat (first | (with_reducible first | exact HB.out | apply zG | apply zA | apply zF | refine zH ?_ GE373.out) | exact HB.out))) : w.heap.size ≤ gb374)); have n4_ := n3_; have n5_ := zC.mk ((by rw [hg]; exact Nat.ne_of_lt (zV (by (with_reducible repeat (first | refine zE ?_ _ | refine zI ?_ | refine zD ?_ _)); exact BK373.out)) : gb373 ≠ gb374)); have n6_ := zC.mk n5_.out.symm; clear BK373; clear HB; have BK373 := n0_; have HB := n1_; have BK374 := n2_; have GW374 := n3_; have GE374 := n4_; have NB373_374 := n5_; have NB374_373 := n6_; clear n0_ n1_ n2_ n3_ n4_ n5_ n6_; clear hb hbox hg; have hnb21 := NB373_374.out; have hnc21 := NB374_373.out; have hcz22_0 : w20.cell? ⟨gb373, 0, none⟩ = some (.int .i64 a0_0) := zB BK373.out 0; have hcz22_1 : w20.cell? ⟨gb373, 1, none⟩ = some (.int .i64 a0_1) := zB BK373.out 1; have hcz22_2 : w20.cell? ⟨gb373, 2, none⟩ = some (.int .i64 a0_2) := zB BK373.out 2; have hcz22_3 : w20.cell? ⟨gb373, 3, none⟩ = some (.int .i64 a0_3) := zB BK373.out 3; have hcz22_4 : w20.cell? ⟨gb373, 4, none⟩ = some (.slice A0_4 l0_4.length c0_4) := zB BK373.out 4; have hfz22_0 := zJ BK373.out 0; have hfz22_1 := zJ BK373.out 1; have hfz22_2 := zJ BK373.out 2; have hfz22_3 := zJ BK373.out 3; have hfz22_4 := zJ BK373.out 4) | ((with_reducible refine zP (f := 131) rfl ?_); refine zX (some 5) rfl rfl Try.func131 (by kernel_rfl) rfl #[.agg #[.int .i64 a0_0, .int .i64 a0_1, .int .i64 a0_2, .int .i64 a0_3, .slice A0_4 l0_4.length c0_4]] rfl (by (try simp only [List.map_toArray, List.map_cons, List.map_nil]); first | done | rfl) ?_; (with_reducible refine (xQ.calls a0_0 a0_1 a0_2 a0_3 _ _ l0_4 false _ ?side1 ?side2 A2.out).mono ?_); (case side1 => repeat (first | exact (Kd.C_below HR0_4.out HB.out) | (with_reducible refine Kd.C_alloc ?_ _) | (with_reducible refine Kd.C_drewN ?_ _) | (with_reducible refine Kd.C_drew ?_))); (case side2 => exact HC0_4.out); rintro e w23 ⟨rfl, hb⟩; refine ⟨_, rfl, ?_⟩; have n0_ := zC.mk (zK (g := gb373) (o := .cells #[.int .i64 a0_0, .int .i64 a0_1, .int .i64 a0_2, .int .i64 a0_3, .slice A0_4 l0_4.length c0_4] 32 (0, 0)) (by (with_reducible repeat (first | refine zE ?_ _ | refine zI ?_ | refine zD ?_ _)); exact BK373.out) hb); have n1_ := zC.mk (zK (g := gb374) (o := .cells #[.int .i64 0, .int .i64 0, .int .i64 0] 30 (0, 0)) (by (with_reducible repeat (first | refine zE ?_ _ | refine zI ?_ | refine zD ?_ _)); exact BK374.out) hb); have n2_ := zC.mk (zL (by repeat (first | (with_reducible first | exact HB.out | apply zG | apply zA | apply zF | refine zH ?_ GE373.out | refine zH ?_ GE374.out) | exact HB.out)) hb); clear BK373; clear BK374; clear HB; have BK373 := n0_; have BK374 := n1_; have HB := n2_; clear n0_ n1_ n2_; (try clear hb); have hcz24_0 : w23.cell? ⟨gb374, 0, none⟩ = some (.int .i64 0) := zB BK374.out 0; have hcz24_1 : w23.cell? ⟨gb374, 1, none⟩ = some (.int .i64 0) := zB BK374.out 1; have hcz24_2 : w23.cell? ⟨gb374, 2, none⟩ = some (.int .i64 0) := zB BK374.out 2; have hfz24_0 := zJ BK374.out 0; have hfz24_1 := zJ BK374.out 1; have hfz24_2 := zJ BK374.out 2))
  refine bodyPost_ret (results_ct rfl _ _ gb374 30 #[.int .i64 0, .int .i64 0, .int .i64 0] (0, 0) _ rfl (by (with_reducible repeat (first | refine zE ?_ _ | refine zI ?_ | refine zD ?_ _)); refine zS (cs := #[.int .i64 0, .int .i64 0, .int .i64 0]) ?_ 2 _ rfl; (with_reducible repeat (first | refine zE ?_ _ | refine zI ?_ | refine zD ?_ _)); refine zS (cs := #[.int .i64 0, .int .i64 0, .int .i64 0]) ?_ 1 _ rfl; (with_reducible repeat (first | refine zE ?_ _ | refine zI ?_ | refine zD ?_ _)); refine zS (cs := #[.int .i64 0, .int .i64 0, .int .i64 0]) ?_ 0 _ rfl; (with_reducible repeat (first | refine zE ?_ _ | refine zI ?_ | refine zD ?_ _)); exact BK374.out) Try.underlying30 rfl (by kernel_rfl)) rfl ?_
  exact ⟨by first | rfl | (simp [*, errW_none, errW_some] <;> rfl), by repeat (first | (with_reducible first | exact HB.out | apply zG | apply zA | apply zF | refine zH ?_ GE373.out | refine zH ?_ GE374.out) | exact HB.out)⟩
end Go.Proofs.Ytioendlbpendpaa.X
