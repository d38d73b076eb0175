/- Part of the proof of the law FnExactPanelStarts: equations of the plain functions. No condition of its own. -/
import Derived.Test.YtioendlbpendpaaCFnExactPanelStartsD0
namespace Go.Proofs.Ytioendlbpendpaa.X
open Go.RowKit Go.Proofs.YtioendlbpendpaaW.PrintWords Go.Proofs.YtioendlbpendpaaW.PrintLast Go.Proofs.YtioendlbpendpaaW.PrintMore
attribute [local go_sem] max2_int min2_int max_two min_two max_three min_three max_four min_four   -- for this text's walks alone
set_option linter.unusedVariables false
set_option linter.unusedSimpArgs false
open Go.Proofs.YtioendlbpendpaaW.PrintWords
theorem yN.l0_mono (x0 : List Int) (x1 : List Int) (x5 : Int) : Mono (fun k => yN.l0 k x0 x1 x5) := (fun k => (yN.mono_l k) x0 x1 x5)
noncomputable def yN.l0v (x0 : List Int) (x1 : List Int) (x5 : Int) : Option (Bool) := lim (fun k => yN.l0 k x0 x1 x5)
theorem yN.l0_lim (x0 : List Int) (x1 : List Int) (x5 : Int) : Lim (fun k => yN.l0 k x0 x1 x5) (yN.l0v x0 x1 x5) := lim_Lim (yN.l0_mono x0 x1 x5)
theorem yN.f_mono (l0 : List Int) (l1 : List Int) : Mono (fun k => yN.f k l0 l1) := (fun k => yN.mono l0 l1 k)
noncomputable def yN.fv (l0 : List Int) (l1 : List Int) : Option (Bool) := lim (fun k => yN.f k l0 l1)
theorem yN.f_lim (l0 : List Int) (l1 : List Int) : Lim (fun k => yN.f k l0 l1) (yN.fv l0 l1) := lim_Lim (yN.f_mono l0 l1)
theorem yN.l0v_eq (x0 : List Int) (x1 : List Int) (x5 : Int) : yN.l0v x0 x1 x5 = if x5 < (x0.length : Int) then (if 0 ≤ x5 then (if x5 < (x1.length : Int) then (if (rd x0 x5) = (rd x1 x5) then (yN.l0v x0 x1 (wrap64 (x5 + 1))) else (some false)) else (none)) else (none)) else (some true) := by
  refine lim_step (yN.l0_mono x0 x1 x5) (fun k => rfl) (f := fun k => yN.l0 (k + 1) x0 x1 x5) ?_
  simp only [yN.l0]
  repeat' first
    | (with_reducible exact yN.l0_lim _ _ _)
    | exact Lim.const _
    | refine Lim.ite ?_ ?_
    | refine Lim.bind ?_ (fun _ => ?_)
theorem yN.fv_eq (l0 : List Int) (l1 : List Int) : yN.fv l0 l1 = if (l0.length : Int) = (l1.length : Int) then (yN.l0v l0 l1 0) else (some false) := by
  refine lim_now (fun k => rfl) (f := fun k => if (l0.length : Int) = (l1.length : Int) then (yN.l0 k l0 l1 0) else (some false)) ?_
  repeat' first
    | (with_reducible exact yN.l0_lim _ _ _)
    | exact Lim.const _
    | refine Lim.ite ?_ ?_
    | refine Lim.bind ?_ (fun _ => ?_)
open Go.Proofs.YtioendlbpendpaaW.PrintWords
theorem yL.l0_mono (x0 : List Int) (x1 : Int) (x5 : Int) : Mono (fun k => yL.l0 k x0 x1 x5) := (fun k => (yL.mono_l k) x0 x1 x5)
noncomputable def yL.l0v (x0 : List Int) (x1 : Int) (x5 : Int) : Option (Int) := lim (fun k => yL.l0 k x0 x1 x5)
theorem yL.l0_lim (x0 : List Int) (x1 : Int) (x5 : Int) : Lim (fun k => yL.l0 k x0 x1 x5) (yL.l0v x0 x1 x5) := lim_Lim (yL.l0_mono x0 x1 x5)
theorem yL.f_mono (l0 : List Int) (a1 : Int) : Mono (fun k => yL.f k l0 a1) := (fun k => yL.mono l0 a1 k)
noncomputable def yL.fv (l0 : List Int) (a1 : Int) : Option (Int) := lim (fun k => yL.f k l0 a1)
theorem yL.f_lim (l0 : List Int) (a1 : Int) : Lim (fun k => yL.f k l0 a1) (yL.fv l0 a1) := lim_Lim (yL.f_mono l0 a1)
theorem yL.l0v_eq (x0 : List Int) (x1 : Int) (x5 : Int) : yL.l0v x0 x1 x5 = if x5 < (x0.length : Int) then (if 0 ≤ x5 then (if (rd x0 x5) = x1 then (yL.l0v x0 (wrap64 (x1 + 1)) (wrap64 (x5 + 1))) else (some (-1))) else (none)) else (some x1) := by
  refine lim_step (yL.l0_mono x0 x1 x5) (fun k => rfl) (f := fun k => yL.l0 (k + 1) x0 x1 x5) ?_
  simp only [yL.l0]
  repeat' first
    | (with_reducible exact yL.l0_lim _ _ _)
    | exact Lim.const _
    | refine Lim.ite ?_ ?_
    | refine Lim.bind ?_ (fun _ => ?_)
theorem yL.fv_eq (l0 : List Int) (a1 : Int) : yL.fv l0 a1 = yL.l0v l0 a1 0 := by
  refine lim_now (fun k => rfl) (f := fun k => yL.l0 k l0 a1 0) ?_
  repeat' first
    | (with_reducible exact yL.l0_lim _ _ _)
    | exact Lim.const _
    | refine Lim.ite ?_ ?_
    | refine Lim.bind ?_ (fun _ => ?_)
open Go.Proofs.YtioendlbpendpaaW.PrintWords
theorem yQ.l0_mono (x0 : List Int) (x1 : Int) (x5 : Int) : Mono (fun k => yQ.l0 k x0 x1 x5) := (fun k => (yQ.mono_l k) x0 x1 x5)
noncomputable def yQ.l0v (x0 : List Int) (x1 : Int) (x5 : Int) : Option (Int × List Int) := lim (fun k => yQ.l0 k x0 x1 x5)
theorem yQ.l0_lim (x0 : List Int) (x1 : Int) (x5 : Int) : Lim (fun k => yQ.l0 k x0 x1 x5) (yQ.l0v x0 x1 x5) := lim_Lim (yQ.l0_mono x0 x1 x5)
theorem yQ.f_mono (l0 : List Int) (a1 : Int) : Mono (fun k => yQ.f k l0 a1) := (fun k => yQ.mono l0 a1 k)
noncomputable def yQ.fv (l0 : List Int) (a1 : Int) : Option (Int × List Int) := lim (fun k => yQ.f k l0 a1)
theorem yQ.f_lim (l0 : List Int) (a1 : Int) : Lim (fun k => yQ.f k l0 a1) (yQ.fv l0 a1) := lim_Lim (yQ.f_mono l0 a1)
theorem yQ.l0v_eq (x0 : List Int) (x1 : Int) (x5 : Int) : yQ.l0v x0 x1 x5 = if x5 < (x0.length : Int) then (if 0 ≤ x5 then (yQ.l0v (x0.set (x5 : Int).toNat x1) (wrap64 (x1 + 1)) (wrap64 (x5 + 1))) else (none)) else (some (x1, x0)) := by
  refine lim_step (yQ.l0_mono x0 x1 x5) (fun k => rfl) (f := fun k => yQ.l0 (k + 1) x0 x1 x5) ?_
  simp only [yQ.l0]
  repeat' first
    | (with_reducible exact yQ.l0_lim _ _ _)
    | exact Lim.const _
    | refine Lim.ite ?_ ?_
    | refine Lim.bind ?_ (fun _ => ?_)
theorem yQ.fv_eq (l0 : List Int) (a1 : Int) : yQ.fv l0 a1 = yQ.l0v l0 a1 0 := by
  refine lim_now (fun k => rfl) (f := fun k => yQ.l0 k l0 a1 0) ?_
  repeat' first
    | (with_reducible exact yQ.l0_lim _ _ _)
    | exact Lim.const _
    | refine Lim.ite ?_ ?_
    | refine Lim.bind ?_ (fun _ => ?_)
open Go.Proofs.YtioendlbpendpaaW.PrintWords
theorem xC.l0_mono (x0 : List Int) (x3 : List Int) (x4 : Int) : Mono (fun k => xC.l0 k x0 x3 x4) := (fun k => (xC.mono_l k) x0 x3 x4)
noncomputable def xC.l0v (x0 : List Int) (x3 : List Int) (x4 : Int) : Option (List Int) := lim (fun k => xC.l0 k x0 x3 x4)
theorem xC.l0_lim (x0 : List Int) (x3 : List Int) (x4 : Int) : Lim (fun k => xC.l0 k x0 x3 x4) (xC.l0v x0 x3 x4) := lim_Lim (xC.l0_mono x0 x3 x4)
theorem xC.f_mono (l0 : List Int) : Mono (fun k => xC.f k l0) := (fun k => xC.mono l0 k)
noncomputable def xC.fv (l0 : List Int) : Option (List Int) := lim (fun k => xC.f k l0)
theorem xC.f_lim (l0 : List Int) : Lim (fun k => xC.f k l0) (xC.fv l0) := lim_Lim (xC.f_mono l0)
theorem xC.l0v_eq (x0 : List Int) (x3 : List Int) (x4 : Int) : xC.l0v x0 x3 x4 = if x4 < (x0.length : Int) then (if 0 ≤ x4 then (if x4 < (x3.length : Int) then (xC.l0v x0 (x3.set (x4 : Int).toNat (rd x0 x4)) (wrap64 (x4 + 1))) else (none)) else (none)) else (some x3) := by
  refine lim_step (xC.l0_mono x0 x3 x4) (fun k => rfl) (f := fun k => xC.l0 (k + 1) x0 x3 x4) ?_
  simp only [xC.l0]
  repeat' first
    | (with_reducible exact xC.l0_lim _ _ _)
    | exact Lim.const _
    | refine Lim.ite ?_ ?_
    | refine Lim.bind ?_ (fun _ => ?_)
theorem xC.fv_eq (l0 : List Int) : xC.fv l0 = if 0 ≤ (l0.length : Int) then (if ((l0.length : Int) : Int).toNat ≤ 35184372088832 then (xC.l0v l0 (List.replicate ((l0.length : Int) : Int).toNat 0) 0) else (none)) else (none) := by
  refine lim_now (fun k => rfl) (f := fun k => if 0 ≤ (l0.length : Int) then (if ((l0.length : Int) : Int).toNat ≤ 35184372088832 then (xC.l0 k l0 (List.replicate ((l0.length : Int) : Int).toNat 0) 0) else (none)) else (none)) ?_
  repeat' first
    | (with_reducible exact xC.l0_lim _ _ _)
    | exact Lim.const _
    | refine Lim.ite ?_ ?_
    | refine Lim.bind ?_ (fun _ => ?_)
open Go.Proofs.YtioendlbpendpaaW.PrintWords
theorem yY.l0_mono (x0 : List Int) (x1 : Int) (x2 : Int) (x3 : Int) (x9 : Int) : Mono (fun k => yY.l0 k x0 x1 x2 x3 x9) := (fun k => (yY.mono_l k) x0 x1 x2 x3 x9)
noncomputable def yY.l0v (x0 : List Int) (x1 : Int) (x2 : Int) (x3 : Int) (x9 : Int) : Option (Bool) := lim (fun k => yY.l0 k x0 x1 x2 x3 x9)
theorem yY.l0_lim (x0 : List Int) (x1 : Int) (x2 : Int) (x3 : Int) (x9 : Int) : Lim (fun k => yY.l0 k x0 x1 x2 x3 x9) (yY.l0v x0 x1 x2 x3 x9) := lim_Lim (yY.l0_mono x0 x1 x2 x3 x9)
theorem yY.f_mono (l0 : List Int) (a1 : Int) (a2 : Int) (a3 : Int) : Mono (fun k => yY.f k l0 a1 a2 a3) := (fun k => yY.mono l0 a1 a2 a3 k)
noncomputable def yY.fv (l0 : List Int) (a1 : Int) (a2 : Int) (a3 : Int) : Option (Bool) := lim (fun k => yY.f k l0 a1 a2 a3)
theorem yY.f_lim (l0 : List Int) (a1 : Int) (a2 : Int) (a3 : Int) : Lim (fun k => yY.f k l0 a1 a2 a3) (yY.fv l0 a1 a2 a3) := lim_Lim (yY.f_mono l0 a1 a2 a3)
theorem yY.l0v_eq (x0 : List Int) (x1 : Int) (x2 : Int) (x3 : Int) (x9 : Int) : yY.l0v x0 x1 x2 x3 x9 = if x9 < (x0.length : Int) then (if 0 ≤ x9 then ((xI.f (rd x0 x9) x2 x3).bind fun t111 => (if t111 = true then (yY.l0v x0 x1 x2 x3 (wrap64 (x9 + 1))) else (some false))) else (none)) else (some (decide ((x0.length : Int) ≤ x1))) := by
  refine lim_step (yY.l0_mono x0 x1 x2 x3 x9) (fun k => rfl) (f := fun k => yY.l0 (k + 1) x0 x1 x2 x3 x9) ?_
  simp only [yY.l0]
  repeat' first
    | (with_reducible exact yY.l0_lim _ _ _ _ _)
    | exact Lim.const _
    | refine Lim.ite ?_ ?_
    | refine Lim.bind ?_ (fun _ => ?_)
theorem yY.fv_eq (l0 : List Int) (a1 : Int) (a2 : Int) (a3 : Int) : yY.fv l0 a1 a2 a3 = yY.l0v l0 a1 a2 a3 0 := by
  refine lim_now (fun k => rfl) (f := fun k => yY.l0 k l0 a1 a2 a3 0) ?_
  repeat' first
    | (with_reducible exact yY.l0_lim _ _ _ _ _)
    | exact Lim.const _
    | refine Lim.ite ?_ ?_
    | refine Lim.bind ?_ (fun _ => ?_)
open Go.Proofs.YtioendlbpendpaaW.PrintWords
theorem xJ.f_mono (a0_0 : Int) (a0_1 : Int) (a0_2 : Int) (a0_3 : Int) (l0_4 : List Int) (a1_0 : Int) (a1_1 : Int) (a1_2 : Int) (a1_3 : Int) (l1_4 : List Int) : Mono (fun k => xJ.f k a0_0 a0_1 a0_2 a0_3 l0_4 a1_0 a1_1 a1_2 a1_3 l1_4) := (fun k => xJ.mono a0_0 a0_1 a0_2 a0_3 l0_4 a1_0 a1_1 a1_2 a1_3 l1_4 k)
noncomputable def xJ.fv (a0_0 : Int) (a0_1 : Int) (a0_2 : Int) (a0_3 : Int) (l0_4 : List Int) (a1_0 : Int) (a1_1 : Int) (a1_2 : Int) (a1_3 : Int) (l1_4 : List Int) : Option (Bool) := lim (fun k => xJ.f k a0_0 a0_1 a0_2 a0_3 l0_4 a1_0 a1_1 a1_2 a1_3 l1_4)
theorem xJ.f_lim (a0_0 : Int) (a0_1 : Int) (a0_2 : Int) (a0_3 : Int) (l0_4 : List Int) (a1_0 : Int) (a1_1 : Int) (a1_2 : Int) (a1_3 : Int) (l1_4 : List Int) : Lim (fun k => xJ.f k a0_0 a0_1 a0_2 a0_3 l0_4 a1_0 a1_1 a1_2 a1_3 l1_4) (xJ.fv a0_0 a0_1 a0_2 a0_3 l0_4 a1_0 a1_1 a1_2 a1_3 l1_4) := lim_Lim (xJ.f_mono a0_0 a0_1 a0_2 a0_3 l0_4 a1_0 a1_1 a1_2 a1_3 l1_4)
theorem xJ.fv_eq (a0_0 : Int) (a0_1 : Int) (a0_2 : Int) (a0_3 : Int) (l0_4 : List Int) (a1_0 : Int) (a1_1 : Int) (a1_2 : Int) (a1_3 : Int) (l1_4 : List Int) : xJ.fv a0_0 a0_1 a0_2 a0_3 l0_4 a1_0 a1_1 a1_2 a1_3 l1_4 = if a0_0 = a1_0 then ((wF.f a0_1 a0_2 a0_3 a1_1 a1_2 a1_3).bind fun t441 => (if t441 = true then ((yN.fv l0_4 l1_4).bind fun t442 => (if t442 = true then (some true) else (some false))) else (some false))) else (some false) := by
  refine lim_now (fun k => rfl) (f := fun k => if a0_0 = a1_0 then ((wF.f a0_1 a0_2 a0_3 a1_1 a1_2 a1_3).bind fun t441 => (if t441 = true then ((yN.f k l0_4 l1_4).bind fun t442 => (if t442 = true then (some true) else (some false))) else (some false))) else (some false)) ?_
  repeat' first
    | (with_reducible exact yN.f_lim _ _)
    | exact Lim.const _
    | refine Lim.ite ?_ ?_
    | refine Lim.bind ?_ (fun _ => ?_)
open Go.Proofs.YtioendlbpendpaaW.PrintWords
theorem yZ.f_mono (a0_0 : Int) (a0_1 : Int) (a0_2 : Int) (a0_3 : Int) (l0_4 : List Int) : Mono (fun k => yZ.f k a0_0 a0_1 a0_2 a0_3 l0_4) := (fun k => yZ.mono a0_0 a0_1 a0_2 a0_3 l0_4 k)
noncomputable def yZ.fv (a0_0 : Int) (a0_1 : Int) (a0_2 : Int) (a0_3 : Int) (l0_4 : List Int) : Option (Int × Int × Int × Int × List Int) := lim (fun k => yZ.f k a0_0 a0_1 a0_2 a0_3 l0_4)
theorem yZ.f_lim (a0_0 : Int) (a0_1 : Int) (a0_2 : Int) (a0_3 : Int) (l0_4 : List Int) : Lim (fun k => yZ.f k a0_0 a0_1 a0_2 a0_3 l0_4) (yZ.fv a0_0 a0_1 a0_2 a0_3 l0_4) := lim_Lim (yZ.f_mono a0_0 a0_1 a0_2 a0_3 l0_4)
theorem yZ.fv_eq (a0_0 : Int) (a0_1 : Int) (a0_2 : Int) (a0_3 : Int) (l0_4 : List Int) : yZ.fv a0_0 a0_1 a0_2 a0_3 l0_4 = (wS.f a0_1 a0_2 a0_3).bind fun bt264 => ((xC.fv l0_4).bind fun t267 => (some (a0_0, bt264.1, bt264.2.1, bt264.2.2, t267))) := by
  refine lim_now (fun k => rfl) (f := fun k => (wS.f a0_1 a0_2 a0_3).bind fun bt264 => ((xC.f k l0_4).bind fun t267 => (some (a0_0, bt264.1, bt264.2.1, bt264.2.2, t267)))) ?_
  repeat' first
    | (with_reducible exact xC.f_lim _)
    | exact Lim.const _
    | refine Lim.ite ?_ ?_
    | refine Lim.bind ?_ (fun _ => ?_)
open Go.Proofs.YtioendlbpendpaaW.PrintWords
theorem xN.f_mono (a0_0 : Int) (a0_1 : Int) (a0_2 : Int) (a0_3 : Int) (l0_4 : List Int) : Mono (fun k => xN.f k a0_0 a0_1 a0_2 a0_3 l0_4) := (fun k => xN.mono a0_0 a0_1 a0_2 a0_3 l0_4 k)
noncomputable def xN.fv (a0_0 : Int) (a0_1 : Int) (a0_2 : Int) (a0_3 : Int) (l0_4 : List Int) : Option (Bool) := lim (fun k => xN.f k a0_0 a0_1 a0_2 a0_3 l0_4)
theorem xN.f_lim (a0_0 : Int) (a0_1 : Int) (a0_2 : Int) (a0_3 : Int) (l0_4 : List Int) : Lim (fun k => xN.f k a0_0 a0_1 a0_2 a0_3 l0_4) (xN.fv a0_0 a0_1 a0_2 a0_3 l0_4) := lim_Lim (xN.f_mono a0_0 a0_1 a0_2 a0_3 l0_4)
theorem xN.fv_eq (a0_0 : Int) (a0_1 : Int) (a0_2 : Int) (a0_3 : Int) (l0_4 : List Int) : xN.fv a0_0 a0_1 a0_2 a0_3 l0_4 = (wL.f a0_0 a0_1 a0_2 a0_3).bind fun t113 => (if t113 = 0 then (if (l0_4.length : Int) = (wrap64 (a0_1 * a0_3)) then ((yY.fv l0_4 64 0 9).bind fun t114 => (some t114)) else (some false)) else (some false)) := by
  refine lim_now (fun k => rfl) (f := fun k => (wL.f a0_0 a0_1 a0_2 a0_3).bind fun t113 => (if t113 = 0 then (if (l0_4.length : Int) = (wrap64 (a0_1 * a0_3)) then ((yY.f k l0_4 64 0 9).bind fun t114 => (some t114)) else (some false)) else (some false))) ?_
  repeat' first
    | (with_reducible exact yY.f_lim _ _ _ _)
    | exact Lim.const _
    | refine Lim.ite ?_ ?_
    | refine Lim.bind ?_ (fun _ => ?_)
open Go.Proofs.YtioendlbpendpaaW.PrintWords
theorem yG.l0_mono (x3 : List (S50)) (x8 : Int) (x9 : Int) (x284000 : Int) (x284001 : Int) (x284002 : Int) : Mono (fun k => yG.l0 k x3 x8 x9 x284000 x284001 x284002) := (fun k => (yG.mono_l k).1 x3 x8 x9 x284000 x284001 x284002)
noncomputable def yG.l0v (x3 : List (S50)) (x8 : Int) (x9 : Int) (x284000 : Int) (x284001 : Int) (x284002 : Int) : Option ((List (S50))) := lim (fun k => yG.l0 k x3 x8 x9 x284000 x284001 x284002)
theorem yG.l0_lim (x3 : List (S50)) (x8 : Int) (x9 : Int) (x284000 : Int) (x284001 : Int) (x284002 : Int) : Lim (fun k => yG.l0 k x3 x8 x9 x284000 x284001 x284002) (yG.l0v x3 x8 x9 x284000 x284001 x284002) := lim_Lim (yG.l0_mono x3 x8 x9 x284000 x284001 x284002)
theorem yG.l1_mono (x3 : List (S50)) (x4 : Int) (x8 : Int) (x9 : Int) (x13 : Int) (x14 : Int) (x284000 : Int) (x284001 : Int) (x284002 : Int) : Mono (fun k => yG.l1 k x3 x4 x8 x9 x13 x14 x284000 x284001 x284002) := (fun k => (yG.mono_l k).2 x3 x4 x8 x9 x13 x14 x284000 x284001 x284002)
noncomputable def yG.l1v (x3 : List (S50)) (x4 : Int) (x8 : Int) (x9 : Int) (x13 : Int) (x14 : Int) (x284000 : Int) (x284001 : Int) (x284002 : Int) : Option ((List (S50))) := lim (fun k => yG.l1 k x3 x4 x8 x9 x13 x14 x284000 x284001 x284002)
theorem yG.l1_lim (x3 : List (S50)) (x4 : Int) (x8 : Int) (x9 : Int) (x13 : Int) (x14 : Int) (x284000 : Int) (x284001 : Int) (x284002 : Int) : Lim (fun k => yG.l1 k x3 x4 x8 x9 x13 x14 x284000 x284001 x284002) (yG.l1v x3 x4 x8 x9 x13 x14 x284000 x284001 x284002) := lim_Lim (yG.l1_mono x3 x4 x8 x9 x13 x14 x284000 x284001 x284002)
theorem yG.f_mono (a0_0 : Int) (a0_1 : Int) (a0_2 : Int) : Mono (fun k => yG.f k a0_0 a0_1 a0_2) := (fun k => yG.mono a0_0 a0_1 a0_2 k)
noncomputable def yG.fv (a0_0 : Int) (a0_1 : Int) (a0_2 : Int) : Option ((List (S50))) := lim (fun k => yG.f k a0_0 a0_1 a0_2)
theorem yG.f_lim (a0_0 : Int) (a0_1 : Int) (a0_2 : Int) : Lim (fun k => yG.f k a0_0 a0_1 a0_2) (yG.fv a0_0 a0_1 a0_2) := lim_Lim (yG.f_mono a0_0 a0_1 a0_2)
theorem yG.l0v_eq (x3 : List (S50)) (x8 : Int) (x9 : Int) (x284000 : Int) (x284001 : Int) (x284002 : Int) : yG.l0v x3 x8 x9 x284000 x284001 x284002 = if x9 < x8 then (yG.l1v x3 x9 x8 x9 x284002 0 x284000 x284001 x284002) else (some x3) := by
  refine lim_step (yG.l0_mono x3 x8 x9 x284000 x284001 x284002) (fun k => rfl) (f := fun k => yG.l0 (k + 1) x3 x8 x9 x284000 x284001 x284002) ?_
  simp only [yG.l0]
  repeat' first
    | (with_reducible exact yG.l1_lim _ _ _ _ _ _ _ _ _)
    | exact Lim.const _
    | refine Lim.ite ?_ ?_
    | refine Lim.bind ?_ (fun _ => ?_)
theorem yG.l1v_eq (x3 : List (S50)) (x4 : Int) (x8 : Int) (x9 : Int) (x13 : Int) (x14 : Int) (x284000 : Int) (x284001 : Int) (x284002 : Int) : yG.l1v x3 x4 x8 x9 x13 x14 x284000 x284001 x284002 = if x14 < x13 then (if x3.length < 8796093022208 then (yG.l1v (x3 ++ [(⟨x4, x14⟩ : S50)]) x4 x8 x9 x13 (wrap64 (x14 + 1)) x284000 x284001 x284002) else (none)) else (yG.l0v x3 x8 (wrap64 (x9 + 1)) x284000 x284001 x284002) := by
  refine lim_step (yG.l1_mono x3 x4 x8 x9 x13 x14 x284000 x284001 x284002) (fun k => rfl) (f := fun k => yG.l1 (k + 1) x3 x4 x8 x9 x13 x14 x284000 x284001 x284002) ?_
  simp only [yG.l1]
  repeat' first
    | (with_reducible exact yG.l0_lim _ _ _ _ _ _)
    | (with_reducible exact yG.l1_lim _ _ _ _ _ _ _ _ _)
    | exact Lim.const _
    | refine Lim.ite ?_ ?_
    | refine Lim.bind ?_ (fun _ => ?_)
theorem yG.fv_eq (a0_0 : Int) (a0_1 : Int) (a0_2 : Int) : yG.fv a0_0 a0_1 a0_2 = yG.l0v (([] : List (S50))) a0_0 0 a0_0 a0_1 a0_2 := by
  refine lim_now (fun k => rfl) (f := fun k => yG.l0 k (([] : List (S50))) a0_0 0 a0_0 a0_1 a0_2) ?_
  repeat' first
    | (with_reducible exact yG.l0_lim _ _ _ _ _ _)
    | exact Lim.const _
    | refine Lim.ite ?_ ?_
    | refine Lim.bind ?_ (fun _ => ?_)
open Go.Proofs.YtioendlbpendpaaW.PrintWords
theorem yO.l0_mono (x3 : List (S50)) (x4 : Int) (x116000 : Int) (x116001 : Int) (x116002 : Int) : Mono (fun k => yO.l0 k x3 x4 x116000 x116001 x116002) := (fun k => (yO.mono_l k).1 x3 x4 x116000 x116001 x116002)
noncomputable def yO.l0v (x3 : List (S50)) (x4 : Int) (x116000 : Int) (x116001 : Int) (x116002 : Int) : Option ((List (S50))) := lim (fun k => yO.l0 k x3 x4 x116000 x116001 x116002)
theorem yO.l0_lim (x3 : List (S50)) (x4 : Int) (x116000 : Int) (x116001 : Int) (x116002 : Int) : Lim (fun k => yO.l0 k x3 x4 x116000 x116001 x116002) (yO.l0v x3 x4 x116000 x116001 x116002) := lim_Lim (yO.l0_mono x3 x4 x116000 x116001 x116002)
theorem yO.l1_mono (x3 : List (S50)) (x4 : Int) (x5 : Int) (x116000 : Int) (x116001 : Int) (x116002 : Int) : Mono (fun k => yO.l1 k x3 x4 x5 x116000 x116001 x116002) := (fun k => (yO.mono_l k).2 x3 x4 x5 x116000 x116001 x116002)
noncomputable def yO.l1v (x3 : List (S50)) (x4 : Int) (x5 : Int) (x116000 : Int) (x116001 : Int) (x116002 : Int) : Option ((List (S50))) := lim (fun k => yO.l1 k x3 x4 x5 x116000 x116001 x116002)
theorem yO.l1_lim (x3 : List (S50)) (x4 : Int) (x5 : Int) (x116000 : Int) (x116001 : Int) (x116002 : Int) : Lim (fun k => yO.l1 k x3 x4 x5 x116000 x116001 x116002) (yO.l1v x3 x4 x5 x116000 x116001 x116002) := lim_Lim (yO.l1_mono x3 x4 x5 x116000 x116001 x116002)
theorem yO.f_mono (a0_0 : Int) (a0_1 : Int) (a0_2 : Int) : Mono (fun k => yO.f k a0_0 a0_1 a0_2) := (fun k => yO.mono a0_0 a0_1 a0_2 k)
noncomputable def yO.fv (a0_0 : Int) (a0_1 : Int) (a0_2 : Int) : Option ((List (S50))) := lim (fun k => yO.f k a0_0 a0_1 a0_2)
theorem yO.f_lim (a0_0 : Int) (a0_1 : Int) (a0_2 : Int) : Lim (fun k => yO.f k a0_0 a0_1 a0_2) (yO.fv a0_0 a0_1 a0_2) := lim_Lim (yO.f_mono a0_0 a0_1 a0_2)
theorem yO.l0v_eq (x3 : List (S50)) (x4 : Int) (x116000 : Int) (x116001 : Int) (x116002 : Int) : yO.l0v x3 x4 x116000 x116001 x116002 = if x4 < x116000 then (yO.l1v x3 x4 0 x116000 x116001 x116002) else (some x3) := by
  refine lim_step (yO.l0_mono x3 x4 x116000 x116001 x116002) (fun k => rfl) (f := fun k => yO.l0 (k + 1) x3 x4 x116000 x116001 x116002) ?_
  simp only [yO.l0]
  repeat' first
    | (with_reducible exact yO.l1_lim _ _ _ _ _ _)
    | exact Lim.const _
    | refine Lim.ite ?_ ?_
    | refine Lim.bind ?_ (fun _ => ?_)
theorem yO.l1v_eq (x3 : List (S50)) (x4 : Int) (x5 : Int) (x116000 : Int) (x116001 : Int) (x116002 : Int) : yO.l1v x3 x4 x5 x116000 x116001 x116002 = if x5 < x116002 then (if x3.length < 8796093022208 then (yO.l1v (x3 ++ [(⟨x4, x5⟩ : S50)]) x4 (wrap64 (x5 + 1)) x116000 x116001 x116002) else (none)) else (yO.l0v x3 (wrap64 (x4 + 1)) x116000 x116001 x116002) := by
  refine lim_step (yO.l1_mono x3 x4 x5 x116000 x116001 x116002) (fun k => rfl) (f := fun k => yO.l1 (k + 1) x3 x4 x5 x116000 x116001 x116002) ?_
  simp only [yO.l1]
  repeat' first
    | (with_reducible exact yO.l0_lim _ _ _ _ _)
    | (with_reducible exact yO.l1_lim _ _ _ _ _ _)
    | exact Lim.const _
    | refine Lim.ite ?_ ?_
    | refine Lim.bind ?_ (fun _ => ?_)
theorem yO.fv_eq (a0_0 : Int) (a0_1 : Int) (a0_2 : Int) : yO.fv a0_0 a0_1 a0_2 = yO.l0v (([] : List (S50))) 0 a0_0 a0_1 a0_2 := by
  refine lim_now (fun k => rfl) (f := fun k => yO.l0 k (([] : List (S50))) 0 a0_0 a0_1 a0_2) ?_
  repeat' first
    | (with_reducible exact yO.l0_lim _ _ _ _ _)
    | exact Lim.const _
    | refine Lim.ite ?_ ?_
    | refine Lim.bind ?_ (fun _ => ?_)
open Go.Proofs.YtioendlbpendpaaW.PrintWords
theorem xL.l0_mono (x0 : Int) (x1 : Int) : Mono (fun k => xL.l0 k x0 x1) := (fun k => (xL.mono_l k) x0 x1)
noncomputable def xL.l0v (x0 : Int) (x1 : Int) : Option (Int) := lim (fun k => xL.l0 k x0 x1)
theorem xL.l0_lim (x0 : Int) (x1 : Int) : Lim (fun k => xL.l0 k x0 x1) (xL.l0v x0 x1) := lim_Lim (xL.l0_mono x0 x1)
theorem xL.f_mono (a0 : Int) (a1 : Int) : Mono (fun k => xL.f k a0 a1) := (fun k => xL.mono a0 a1 k)
noncomputable def xL.fv (a0 : Int) (a1 : Int) : Option (Int) := lim (fun k => xL.f k a0 a1)
theorem xL.f_lim (a0 : Int) (a1 : Int) : Lim (fun k => xL.f k a0 a1) (xL.fv a0 a1) := lim_Lim (xL.f_mono a0 a1)
theorem xL.l0v_eq (x0 : Int) (x1 : Int) : xL.l0v x0 x1 = if x1 = 0 then (some (mx x0 (wrap64 (-x0)))) else (xL.l0v x1 (Int.tmod x0 x1)) := by
  refine lim_step (xL.l0_mono x0 x1) (fun k => rfl) (f := fun k => xL.l0 (k + 1) x0 x1) ?_
  simp only [xL.l0]
  repeat' first
    | (with_reducible exact xL.l0_lim _ _)
    | exact Lim.const _
    | refine Lim.ite ?_ ?_
    | refine Lim.bind ?_ (fun _ => ?_)
theorem xL.fv_eq (a0 : Int) (a1 : Int) : xL.fv a0 a1 = xL.l0v a0 a1 := by
  refine lim_now (fun k => rfl) (f := fun k => xL.l0 k a0 a1) ?_
  repeat' first
    | (with_reducible exact xL.l0_lim _ _)
    | exact Lim.const _
    | refine Lim.ite ?_ ?_
    | refine Lim.bind ?_ (fun _ => ?_)
open Go.Proofs.YtioendlbpendpaaW.PrintWords
theorem yI.l0_mono (x3 : Int) (x9 : List (S50)) (x10 : Int) (x11 : Int) (x335000 : Int) (x335001 : Int) : Mono (fun k => yI.l0 k x3 x9 x10 x11 x335000 x335001) := (fun k => (yI.mono_l k).1 x3 x9 x10 x11 x335000 x335001)
noncomputable def yI.l0v (x3 : Int) (x9 : List (S50)) (x10 : Int) (x11 : Int) (x335000 : Int) (x335001 : Int) : Option (Int × Int × Int) := lim (fun k => yI.l0 k x3 x9 x10 x11 x335000 x335001)
theorem yI.l0_lim (x3 : Int) (x9 : List (S50)) (x10 : Int) (x11 : Int) (x335000 : Int) (x335001 : Int) : Lim (fun k => yI.l0 k x3 x9 x10 x11 x335000 x335001) (yI.l0v x3 x9 x10 x11 x335000 x335001) := lim_Lim (yI.l0_mono x3 x9 x10 x11 x335000 x335001)
theorem yI.l1_mono (x3 : Int) (x9 : List (S50)) (x10 : Int) (x11 : Int) (x335000 : Int) (x335001 : Int) (x337000 : Int) (x337001 : Int) : Mono (fun k => yI.l1 k x3 x9 x10 x11 x335000 x335001 x337000 x337001) := (fun k => (yI.mono_l k).2 x3 x9 x10 x11 x335000 x335001 x337000 x337001)
noncomputable def yI.l1v (x3 : Int) (x9 : List (S50)) (x10 : Int) (x11 : Int) (x335000 : Int) (x335001 : Int) (x337000 : Int) (x337001 : Int) : Option (Int × Int × Int) := lim (fun k => yI.l1 k x3 x9 x10 x11 x335000 x335001 x337000 x337001)
theorem yI.l1_lim (x3 : Int) (x9 : List (S50)) (x10 : Int) (x11 : Int) (x335000 : Int) (x335001 : Int) (x337000 : Int) (x337001 : Int) : Lim (fun k => yI.l1 k x3 x9 x10 x11 x335000 x335001 x337000 x337001) (yI.l1v x3 x9 x10 x11 x335000 x335001 x337000 x337001) := lim_Lim (yI.l1_mono x3 x9 x10 x11 x335000 x335001 x337000 x337001)
theorem yI.f_mono (l0 : List (S50)) : Mono (fun k => yI.f k l0) := (fun k => yI.mono l0 k)
noncomputable def yI.fv (l0 : List (S50)) : Option (Int × Int × Int) := lim (fun k => yI.f k l0)
theorem yI.f_lim (l0 : List (S50)) : Lim (fun k => yI.f k l0) (yI.fv l0) := lim_Lim (yI.f_mono l0)
theorem yI.l0v_eq (x3 : Int) (x9 : List (S50)) (x10 : Int) (x11 : Int) (x335000 : Int) (x335001 : Int) : yI.l0v x3 x9 x10 x11 x335000 x335001 = if x11 < x10 then (if 0 ≤ x11 then (if x11 < (x9.length : Int) then (yI.l1v x3 x9 x10 x11 x335000 x335001 ((rd_T50 x9 x11).f0) ((rd_T50 x9 x11).f1)) else (none)) else (none)) else (if x335001 < 0 then ((wI.f x335000 x335001 (-1)).bind fun bt342 => ((wG.f bt342.1 x3).bind fun t344 => (some (x3, t344, bt342.2)))) else ((wG.f x335000 x3).bind fun t345 => (some (x3, t345, x335001)))) := by
  refine lim_step (yI.l0_mono x3 x9 x10 x11 x335000 x335001) (fun k => rfl) (f := fun k => yI.l0 (k + 1) x3 x9 x10 x11 x335000 x335001) ?_
  simp only [yI.l0]
  repeat' first
    | (with_reducible exact yI.l1_lim _ _ _ _ _ _ _ _)
    | exact Lim.const _
    | refine Lim.ite ?_ ?_
    | refine Lim.bind ?_ (fun _ => ?_)
theorem yI.l1v_eq (x3 : Int) (x9 : List (S50)) (x10 : Int) (x11 : Int) (x335000 : Int) (x335001 : Int) (x337000 : Int) (x337001 : Int) : yI.l1v x3 x9 x10 x11 x335000 x335001 x337000 x337001 = if x337001 = 0 then ((xL.fv x3 x337000).bind fun t337 => (yI.l0v t337 x9 x10 (wrap64 (x11 + 1)) x335000 x335001)) else ((wI.f x337000 x337001 (wrap64 (-(wrap64 (Int.tdiv x335001 x337001))))).bind fun bt338 => ((xX.f x335000 x335001 bt338.1 bt338.2).bind fun bt340 => (yI.l1v x3 x9 x10 x11 x337000 x337001 bt340.1 bt340.2))) := by
  refine lim_step (yI.l1_mono x3 x9 x10 x11 x335000 x335001 x337000 x337001) (fun k => rfl) (f := fun k => yI.l1 (k + 1) x3 x9 x10 x11 x335000 x335001 x337000 x337001) ?_
  simp only [yI.l1]
  repeat' first
    | (with_reducible exact xL.f_lim _ _)
    | (with_reducible exact yI.l0_lim _ _ _ _ _ _)
    | (with_reducible exact yI.l1_lim _ _ _ _ _ _ _ _)
    | exact Lim.const _
    | refine Lim.ite ?_ ?_
    | refine Lim.bind ?_ (fun _ => ?_)
theorem yI.fv_eq (l0 : List (S50)) : yI.fv l0 = yI.l0v 0 l0 (l0.length : Int) 0 0 0 := by
  refine lim_now (fun k => rfl) (f := fun k => yI.l0 k 0 l0 (l0.length : Int) 0 0 0) ?_
  repeat' first
    | (with_reducible exact yI.l0_lim _ _ _ _ _ _)
    | exact Lim.const _
    | refine Lim.ite ?_ ?_
    | refine Lim.bind ?_ (fun _ => ?_)
open Go.Proofs.YtioendlbpendpaaW.PrintWords
theorem xG.f_mono (a0 : Int) (a1 : Int) : Mono (fun k => xG.f k a0 a1) := (fun k => (xG.mono_l k) a0 a1)
noncomputable def xG.fv (a0 : Int) (a1 : Int) : Option (Int) := lim (fun k => xG.f k a0 a1)
theorem xG.f_lim (a0 : Int) (a1 : Int) : Lim (fun k => xG.f k a0 a1) (xG.fv a0 a1) := lim_Lim (xG.f_mono a0 a1)
theorem xG.fv_eq (a0 : Int) (a1 : Int) : xG.fv a0 a1 = if a1 = 0 then (some (mx a0 (wrap64 (-a0)))) else ((xG.fv a1 (Int.tmod a0 a1)).bind fun t164 => (some t164)) := by
  refine lim_step (xG.f_mono a0 a1) (fun k => rfl) (f := fun k => xG.f (k + 1) a0 a1) ?_
  simp only [xG.f]
  repeat' first
    | (with_reducible exact xG.f_lim _ _)
    | exact Lim.const _
    | refine Lim.ite ?_ ?_
    | refine Lim.bind ?_ (fun _ => ?_)
open Go.Proofs.YtioendlbpendpaaW.PrintWords
theorem yJ.l0_mono (x0 : List (S50)) (x4 : Int) (x5 : Int) (x169000 : Int) (x169001 : Int) : Mono (fun k => yJ.l0 k x0 x4 x5 x169000 x169001) := (fun k => (yJ.mono_l k).1 x0 x4 x5 x169000 x169001)
noncomputable def yJ.l0v (x0 : List (S50)) (x4 : Int) (x5 : Int) (x169000 : Int) (x169001 : Int) : Option (Int × Int × Int) := lim (fun k => yJ.l0 k x0 x4 x5 x169000 x169001)
theorem yJ.l0_lim (x0 : List (S50)) (x4 : Int) (x5 : Int) (x169000 : Int) (x169001 : Int) : Lim (fun k => yJ.l0 k x0 x4 x5 x169000 x169001) (yJ.l0v x0 x4 x5 x169000 x169001) := lim_Lim (yJ.l0_mono x0 x4 x5 x169000 x169001)
theorem yJ.l1_mono (x0 : List (S50)) (x4 : Int) (x5 : Int) (x169000 : Int) (x169001 : Int) (x171000 : Int) (x171001 : Int) : Mono (fun k => yJ.l1 k x0 x4 x5 x169000 x169001 x171000 x171001) := (fun k => (yJ.mono_l k).2 x0 x4 x5 x169000 x169001 x171000 x171001)
noncomputable def yJ.l1v (x0 : List (S50)) (x4 : Int) (x5 : Int) (x169000 : Int) (x169001 : Int) (x171000 : Int) (x171001 : Int) : Option (Int × Int × Int) := lim (fun k => yJ.l1 k x0 x4 x5 x169000 x169001 x171000 x171001)
theorem yJ.l1_lim (x0 : List (S50)) (x4 : Int) (x5 : Int) (x169000 : Int) (x169001 : Int) (x171000 : Int) (x171001 : Int) : Lim (fun k => yJ.l1 k x0 x4 x5 x169000 x169001 x171000 x171001) (yJ.l1v x0 x4 x5 x169000 x169001 x171000 x171001) := lim_Lim (yJ.l1_mono x0 x4 x5 x169000 x169001 x171000 x171001)
theorem yJ.f_mono (l0 : List (S50)) : Mono (fun k => yJ.f k l0) := (fun k => yJ.mono l0 k)
noncomputable def yJ.fv (l0 : List (S50)) : Option (Int × Int × Int) := lim (fun k => yJ.f k l0)
theorem yJ.f_lim (l0 : List (S50)) : Lim (fun k => yJ.f k l0) (yJ.fv l0) := lim_Lim (yJ.f_mono l0)
theorem yJ.l0v_eq (x0 : List (S50)) (x4 : Int) (x5 : Int) (x169000 : Int) (x169001 : Int) : yJ.l0v x0 x4 x5 x169000 x169001 = if x5 < (x0.length : Int) then (if 0 ≤ x5 then (yJ.l1v x0 x4 x5 x169000 x169001 ((rd_T50 x0 x5).f0) ((rd_T50 x0 x5).f1)) else (none)) else (if x169001 < 0 then ((wV.f x169000 x169001 (-1)).bind fun bt174 => (if x4 > 0 then ((xU.f bt174.1 x4).bind fun t176 => (some (x4, t176, bt174.2))) else (some (x4, bt174.1, bt174.2)))) else (if x4 > 0 then ((xU.f x169000 x4).bind fun t177 => (some (x4, t177, x169001))) else (some (x4, x169000, x169001)))) := by
  refine lim_step (yJ.l0_mono x0 x4 x5 x169000 x169001) (fun k => rfl) (f := fun k => yJ.l0 (k + 1) x0 x4 x5 x169000 x169001) ?_
  simp only [yJ.l0]
  repeat' first
    | (with_reducible exact yJ.l1_lim _ _ _ _ _ _ _)
    | exact Lim.const _
    | refine Lim.ite ?_ ?_
    | refine Lim.bind ?_ (fun _ => ?_)
theorem yJ.l1v_eq (x0 : List (S50)) (x4 : Int) (x5 : Int) (x169000 : Int) (x169001 : Int) (x171000 : Int) (x171001 : Int) : yJ.l1v x0 x4 x5 x169000 x169001 x171000 x171001 = if x171001 = 0 then ((xG.fv x4 x171000).bind fun t172 => (if t172 > 0 then ((xU.f x169000 t172).bind fun t173 => (yJ.l0v x0 t172 (wrap64 (x5 + 1)) t173 x169001)) else (yJ.l0v x0 t172 (wrap64 (x5 + 1)) x169000 x169001))) else (yJ.l1v x0 x4 x5 x171000 x171001 (wrap64 (x169000 - (wrap64 ((wrap64 (Int.tdiv x169001 x171001)) * x171000)))) (wrap64 (x169001 - (wrap64 ((wrap64 (Int.tdiv x169001 x171001)) * x171001))))) := by
  refine lim_step (yJ.l1_mono x0 x4 x5 x169000 x169001 x171000 x171001) (fun k => rfl) (f := fun k => yJ.l1 (k + 1) x0 x4 x5 x169000 x169001 x171000 x171001) ?_
  simp only [yJ.l1]
  repeat' first
    | (with_reducible exact xG.f_lim _ _)
    | (with_reducible exact yJ.l0_lim _ _ _ _ _)
    | (with_reducible exact yJ.l1_lim _ _ _ _ _ _ _)
    | exact Lim.const _
    | refine Lim.ite ?_ ?_
    | refine Lim.bind ?_ (fun _ => ?_)
theorem yJ.fv_eq (l0 : List (S50)) : yJ.fv l0 = yJ.l0v l0 0 0 0 0 := by
  refine lim_now (fun k => rfl) (f := fun k => yJ.l0 k l0 0 0 0 0) ?_
  repeat' first
    | (with_reducible exact yJ.l0_lim _ _ _ _ _)
    | exact Lim.const _
    | refine Lim.ite ?_ ?_
    | refine Lim.bind ?_ (fun _ => ?_)
open Go.Proofs.YtioendlbpendpaaW.PrintWords
theorem yK.l0_mono (x384000 : Int) (x384001 : Int) (x384002 : Int) (x385000 : Int) (x385001 : Int) (x387000 : Int) (x387001 : Int) : Mono (fun k => yK.l0 k x384000 x384001 x384002 x385000 x385001 x387000 x387001) := (fun k => (yK.mono_l k) x384000 x384001 x384002 x385000 x385001 x387000 x387001)
noncomputable def yK.l0v (x384000 : Int) (x384001 : Int) (x384002 : Int) (x385000 : Int) (x385001 : Int) (x387000 : Int) (x387001 : Int) : Option (Int × Int) := lim (fun k => yK.l0 k x384000 x384001 x384002 x385000 x385001 x387000 x387001)
theorem yK.l0_lim (x384000 : Int) (x384001 : Int) (x384002 : Int) (x385000 : Int) (x385001 : Int) (x387000 : Int) (x387001 : Int) : Lim (fun k => yK.l0 k x384000 x384001 x384002 x385000 x385001 x387000 x387001) (yK.l0v x384000 x384001 x384002 x385000 x385001 x387000 x387001) := lim_Lim (yK.l0_mono x384000 x384001 x384002 x385000 x385001 x387000 x387001)
theorem yK.f_mono (a0_0 : Int) (a0_1 : Int) (a0_2 : Int) (a1_0 : Int) (a1_1 : Int) : Mono (fun k => yK.f k a0_0 a0_1 a0_2 a1_0 a1_1) := (fun k => yK.mono a0_0 a0_1 a0_2 a1_0 a1_1 k)
noncomputable def yK.fv (a0_0 : Int) (a0_1 : Int) (a0_2 : Int) (a1_0 : Int) (a1_1 : Int) : Option (Int × Int) := lim (fun k => yK.f k a0_0 a0_1 a0_2 a1_0 a1_1)
theorem yK.f_lim (a0_0 : Int) (a0_1 : Int) (a0_2 : Int) (a1_0 : Int) (a1_1 : Int) : Lim (fun k => yK.f k a0_0 a0_1 a0_2 a1_0 a1_1) (yK.fv a0_0 a0_1 a0_2 a1_0 a1_1) := lim_Lim (yK.f_mono a0_0 a0_1 a0_2 a1_0 a1_1)
theorem yK.l0v_eq (x384000 : Int) (x384001 : Int) (x384002 : Int) (x385000 : Int) (x385001 : Int) (x387000 : Int) (x387001 : Int) : yK.l0v x384000 x384001 x384002 x385000 x385001 x387000 x387001 = (wA.f x384000 x384001 x384002 x387000 x387001).bind fun t387 => (if t387 = true then (some (x387000, x387001)) else ((xX.f x387000 x387001 x385000 x385001).bind fun bt388 => (yK.l0v x384000 x384001 x384002 x385000 x385001 bt388.1 bt388.2))) := by
  refine lim_step (yK.l0_mono x384000 x384001 x384002 x385000 x385001 x387000 x387001) (fun k => rfl) (f := fun k => yK.l0 (k + 1) x384000 x384001 x384002 x385000 x385001 x387000 x387001) ?_
  simp only [yK.l0]
  repeat' first
    | (with_reducible exact yK.l0_lim _ _ _ _ _ _ _)
    | exact Lim.const _
    | refine Lim.ite ?_ ?_
    | refine Lim.bind ?_ (fun _ => ?_)
theorem yK.fv_eq (a0_0 : Int) (a0_1 : Int) (a0_2 : Int) (a1_0 : Int) (a1_1 : Int) : yK.fv a0_0 a0_1 a0_2 a1_0 a1_1 = yK.l0v a0_0 a0_1 a0_2 a1_0 a1_1 a1_0 a1_1 := by
  refine lim_now (fun k => rfl) (f := fun k => yK.l0 k a0_0 a0_1 a0_2 a1_0 a1_1 a1_0 a1_1) ?_
  repeat' first
    | (with_reducible exact yK.l0_lim _ _ _ _ _ _ _)
    | exact Lim.const _
    | refine Lim.ite ?_ ?_
    | refine Lim.bind ?_ (fun _ => ?_)
open Go.Proofs.YtioendlbpendpaaW.PrintWords
theorem xE.f_mono (a0_0 : Int) (a0_1 : Int) (a0_2 : Int) : Mono (fun k => xE.f k a0_0 a0_1 a0_2) := (fun k => xE.mono a0_0 a0_1 a0_2 k)
noncomputable def xE.fv (a0_0 : Int) (a0_1 : Int) (a0_2 : Int) : Option (Int) := lim (fun k => xE.f k a0_0 a0_1 a0_2)
theorem xE.f_lim (a0_0 : Int) (a0_1 : Int) (a0_2 : Int) : Lim (fun k => xE.f k a0_0 a0_1 a0_2) (xE.fv a0_0 a0_1 a0_2) := lim_Lim (xE.f_mono a0_0 a0_1 a0_2)
theorem xE.fv_eq (a0_0 : Int) (a0_1 : Int) (a0_2 : Int) : xE.fv a0_0 a0_1 a0_2 = (yK.fv a0_0 a0_1 a0_2 0 1).bind fun bt391 => (some bt391.2) := by
  refine lim_now (fun k => rfl) (f := fun k => (yK.f k a0_0 a0_1 a0_2 0 1).bind fun bt391 => (some bt391.2)) ?_
  repeat' first
    | (with_reducible exact yK.f_lim _ _ _ _ _)
    | exact Lim.const _
    | refine Lim.ite ?_ ?_
    | refine Lim.bind ?_ (fun _ => ?_)
open Go.Proofs.YtioendlbpendpaaW.PrintWords
theorem yR.l0_mono (x1 : Int) (x7 : Int) (x8 : Int) (x394000 : Int) (x394001 : Int) (x394002 : Int) : Mono (fun k => yR.l0 k x1 x7 x8 x394000 x394001 x394002) := (fun k => (yR.mono_l k) x1 x7 x8 x394000 x394001 x394002)
noncomputable def yR.l0v (x1 : Int) (x7 : Int) (x8 : Int) (x394000 : Int) (x394001 : Int) (x394002 : Int) : Option (Int) := lim (fun k => yR.l0 k x1 x7 x8 x394000 x394001 x394002)
theorem yR.l0_lim (x1 : Int) (x7 : Int) (x8 : Int) (x394000 : Int) (x394001 : Int) (x394002 : Int) : Lim (fun k => yR.l0 k x1 x7 x8 x394000 x394001 x394002) (yR.l0v x1 x7 x8 x394000 x394001 x394002) := lim_Lim (yR.l0_mono x1 x7 x8 x394000 x394001 x394002)
theorem yR.f_mono (a0_0 : Int) (a0_1 : Int) (a0_2 : Int) (a1 : Int) : Mono (fun k => yR.f k a0_0 a0_1 a0_2 a1) := (fun k => yR.mono a0_0 a0_1 a0_2 a1 k)
noncomputable def yR.fv (a0_0 : Int) (a0_1 : Int) (a0_2 : Int) (a1 : Int) : Option (Int) := lim (fun k => yR.f k a0_0 a0_1 a0_2 a1)
theorem yR.f_lim (a0_0 : Int) (a0_1 : Int) (a0_2 : Int) (a1 : Int) : Lim (fun k => yR.f k a0_0 a0_1 a0_2 a1) (yR.fv a0_0 a0_1 a0_2 a1) := lim_Lim (yR.f_mono a0_0 a0_1 a0_2 a1)
theorem yR.l0v_eq (x1 : Int) (x7 : Int) (x8 : Int) (x394000 : Int) (x394001 : Int) (x394002 : Int) : yR.l0v x1 x7 x8 x394000 x394001 x394002 = if x8 < x7 then ((wA.f x394000 x394001 x394002 x1 (wrap64 (-x8))).bind fun t395 => (if t395 = true then (some x8) else (yR.l0v x1 x7 (wrap64 (x8 + 1)) x394000 x394001 x394002))) else (some (-1)) := by
  refine lim_step (yR.l0_mono x1 x7 x8 x394000 x394001 x394002) (fun k => rfl) (f := fun k => yR.l0 (k + 1) x1 x7 x8 x394000 x394001 x394002) ?_
  simp only [yR.l0]
  repeat' first
    | (with_reducible exact yR.l0_lim _ _ _ _ _ _)
    | exact Lim.const _
    | refine Lim.ite ?_ ?_
    | refine Lim.bind ?_ (fun _ => ?_)
theorem yR.fv_eq (a0_0 : Int) (a0_1 : Int) (a0_2 : Int) (a1 : Int) : yR.fv a0_0 a0_1 a0_2 a1 = (xE.fv a0_0 a0_1 a0_2).bind fun t394 => (yR.l0v a1 t394 0 a0_0 a0_1 a0_2) := by
  refine lim_now (fun k => rfl) (f := fun k => (xE.f k a0_0 a0_1 a0_2).bind fun t394 => (yR.l0 k a1 t394 0 a0_0 a0_1 a0_2)) ?_
  repeat' first
    | (with_reducible exact yR.l0_lim _ _ _ _ _ _)
    | (with_reducible exact xE.f_lim _ _ _)
    | exact Lim.const _
    | refine Lim.ite ?_ ?_
    | refine Lim.bind ?_ (fun _ => ?_)
open Go.Proofs.YtioendlbpendpaaW.PrintWords
theorem yM.l0_mono (x9 : List (S50)) (x10 : Int) (x11 : Int) (x320000 : Int) (x320001 : Int) (x320002 : Int) (x320003 : Int) (x320004 : List Int) (x321000 : Int) (x321001 : Int) (x321002 : Int) (x321003 : Int) (x321004 : Int) (x321005 : Int) : Mono (fun k => yM.l0 k x9 x10 x11 x320000 x320001 x320002 x320003 x320004 x321000 x321001 x321002 x321003 x321004 x321005) := (fun k => (yM.mono_l k) x9 x10 x11 x320000 x320001 x320002 x320003 x320004 x321000 x321001 x321002 x321003 x321004 x321005)
noncomputable def yM.l0v (x9 : List (S50)) (x10 : Int) (x11 : Int) (x320000 : Int) (x320001 : Int) (x320002 : Int) (x320003 : Int) (x320004 : List Int) (x321000 : Int) (x321001 : Int) (x321002 : Int) (x321003 : Int) (x321004 : Int) (x321005 : Int) : Option (Bool) := lim (fun k => yM.l0 k x9 x10 x11 x320000 x320001 x320002 x320003 x320004 x321000 x321001 x321002 x321003 x321004 x321005)
theorem yM.l0_lim (x9 : List (S50)) (x10 : Int) (x11 : Int) (x320000 : Int) (x320001 : Int) (x320002 : Int) (x320003 : Int) (x320004 : List Int) (x321000 : Int) (x321001 : Int) (x321002 : Int) (x321003 : Int) (x321004 : Int) (x321005 : Int) : Lim (fun k => yM.l0 k x9 x10 x11 x320000 x320001 x320002 x320003 x320004 x321000 x321001 x321002 x321003 x321004 x321005) (yM.l0v x9 x10 x11 x320000 x320001 x320002 x320003 x320004 x321000 x321001 x321002 x321003 x321004 x321005) := lim_Lim (yM.l0_mono x9 x10 x11 x320000 x320001 x320002 x320003 x320004 x321000 x321001 x321002 x321003 x321004 x321005)
theorem yM.f_mono (a0_0 : Int) (a0_1 : Int) (a0_2 : Int) (a0_3 : Int) (l0_4 : List Int) (a1_0 : Int) (a1_1 : Int) (a1_2 : Int) (a1_3 : Int) (a1_4 : Int) (a1_5 : Int) : Mono (fun k => yM.f k a0_0 a0_1 a0_2 a0_3 l0_4 a1_0 a1_1 a1_2 a1_3 a1_4 a1_5) := (fun k => yM.mono a0_0 a0_1 a0_2 a0_3 l0_4 a1_0 a1_1 a1_2 a1_3 a1_4 a1_5 k)
noncomputable def yM.fv (a0_0 : Int) (a0_1 : Int) (a0_2 : Int) (a0_3 : Int) (l0_4 : List Int) (a1_0 : Int) (a1_1 : Int) (a1_2 : Int) (a1_3 : Int) (a1_4 : Int) (a1_5 : Int) : Option (Bool) := lim (fun k => yM.f k a0_0 a0_1 a0_2 a0_3 l0_4 a1_0 a1_1 a1_2 a1_3 a1_4 a1_5)
theorem yM.f_lim (a0_0 : Int) (a0_1 : Int) (a0_2 : Int) (a0_3 : Int) (l0_4 : List Int) (a1_0 : Int) (a1_1 : Int) (a1_2 : Int) (a1_3 : Int) (a1_4 : Int) (a1_5 : Int) : Lim (fun k => yM.f k a0_0 a0_1 a0_2 a0_3 l0_4 a1_0 a1_1 a1_2 a1_3 a1_4 a1_5) (yM.fv a0_0 a0_1 a0_2 a0_3 l0_4 a1_0 a1_1 a1_2 a1_3 a1_4 a1_5) := lim_Lim (yM.f_mono a0_0 a0_1 a0_2 a0_3 l0_4 a1_0 a1_1 a1_2 a1_3 a1_4 a1_5)
theorem yM.l0v_eq (x9 : List (S50)) (x10 : Int) (x11 : Int) (x320000 : Int) (x320001 : Int) (x320002 : Int) (x320003 : Int) (x320004 : List Int) (x321000 : Int) (x321001 : Int) (x321002 : Int) (x321003 : Int) (x321004 : Int) (x321005 : Int) : yM.l0v x9 x10 x11 x320000 x320001 x320002 x320003 x320004 x321000 x321001 x321002 x321003 x321004 x321005 = if x11 < x10 then (if 0 ≤ x11 then (if x11 < (x9.length : Int) then ((xS.f x321000 x321001 x321002 x321003 x321004 x321005 ((rd_T50 x9 x11).f0) ((rd_T50 x9 x11).f1)).bind fun bt326 => ((xT.f x320000 x320001 x320002 x320003 x320004 bt326.1 bt326.2).bind fun t328 => (if x11 < (x320004.length : Int) then (if t328 = (rd x320004 x11) then (yM.l0v x9 x10 (wrap64 (x11 + 1)) x320000 x320001 x320002 x320003 x320004 x321000 x321001 x321002 x321003 x321004 x321005) else (some false)) else (none)))) else (none)) else (none)) else (some true) := by
  refine lim_step (yM.l0_mono x9 x10 x11 x320000 x320001 x320002 x320003 x320004 x321000 x321001 x321002 x321003 x321004 x321005) (fun k => rfl) (f := fun k => yM.l0 (k + 1) x9 x10 x11 x320000 x320001 x320002 x320003 x320004 x321000 x321001 x321002 x321003 x321004 x321005) ?_
  simp only [yM.l0]
  repeat' first
    | (with_reducible exact yM.l0_lim _ _ _ _ _ _ _ _ _ _ _ _ _ _)
    | exact Lim.const _
    | refine Lim.ite ?_ ?_
    | refine Lim.bind ?_ (fun _ => ?_)
theorem yM.fv_eq (a0_0 : Int) (a0_1 : Int) (a0_2 : Int) (a0_3 : Int) (l0_4 : List Int) (a1_0 : Int) (a1_1 : Int) (a1_2 : Int) (a1_3 : Int) (a1_4 : Int) (a1_5 : Int) : yM.fv a0_0 a0_1 a0_2 a0_3 l0_4 a1_0 a1_1 a1_2 a1_3 a1_4 a1_5 = (yG.fv a0_1 a0_2 a0_3).bind fun t321 => (yM.l0v t321 (t321.length : Int) 0 a0_0 a0_1 a0_2 a0_3 l0_4 a1_0 a1_1 a1_2 a1_3 a1_4 a1_5) := by
  refine lim_now (fun k => rfl) (f := fun k => (yG.f k a0_1 a0_2 a0_3).bind fun t321 => (yM.l0 k t321 (t321.length : Int) 0 a0_0 a0_1 a0_2 a0_3 l0_4 a1_0 a1_1 a1_2 a1_3 a1_4 a1_5)) ?_
  repeat' first
    | (with_reducible exact yG.f_lim _ _ _)
    | (with_reducible exact yM.l0_lim _ _ _ _ _ _ _ _ _ _ _ _ _ _)
    | exact Lim.const _
    | refine Lim.ite ?_ ?_
    | refine Lim.bind ?_ (fun _ => ?_)
open Go.Proofs.YtioendlbpendpaaW.PrintWords
theorem yH.l0_mono (x5 : List (S50)) (x19 : List (S50)) (x20 : Int) (x21 : Int) (x347000 : Int) (x347001 : Int) (x347002 : Int) (x347003 : Int) (x347004 : List Int) : Mono (fun k => yH.l0 k x5 x19 x20 x21 x347000 x347001 x347002 x347003 x347004) := (fun k => (yH.mono_l k) x5 x19 x20 x21 x347000 x347001 x347002 x347003 x347004)
noncomputable def yH.l0v (x5 : List (S50)) (x19 : List (S50)) (x20 : Int) (x21 : Int) (x347000 : Int) (x347001 : Int) (x347002 : Int) (x347003 : Int) (x347004 : List Int) : Option (Int × Int × Int) := lim (fun k => yH.l0 k x5 x19 x20 x21 x347000 x347001 x347002 x347003 x347004)
theorem yH.l0_lim (x5 : List (S50)) (x19 : List (S50)) (x20 : Int) (x21 : Int) (x347000 : Int) (x347001 : Int) (x347002 : Int) (x347003 : Int) (x347004 : List Int) : Lim (fun k => yH.l0 k x5 x19 x20 x21 x347000 x347001 x347002 x347003 x347004) (yH.l0v x5 x19 x20 x21 x347000 x347001 x347002 x347003 x347004) := lim_Lim (yH.l0_mono x5 x19 x20 x21 x347000 x347001 x347002 x347003 x347004)
theorem yH.f_mono (a0_0 : Int) (a0_1 : Int) (a0_2 : Int) (a0_3 : Int) (l0_4 : List Int) : Mono (fun k => yH.f k a0_0 a0_1 a0_2 a0_3 l0_4) := (fun k => yH.mono a0_0 a0_1 a0_2 a0_3 l0_4 k)
noncomputable def yH.fv (a0_0 : Int) (a0_1 : Int) (a0_2 : Int) (a0_3 : Int) (l0_4 : List Int) : Option (Int × Int × Int) := lim (fun k => yH.f k a0_0 a0_1 a0_2 a0_3 l0_4)
theorem yH.f_lim (a0_0 : Int) (a0_1 : Int) (a0_2 : Int) (a0_3 : Int) (l0_4 : List Int) : Lim (fun k => yH.f k a0_0 a0_1 a0_2 a0_3 l0_4) (yH.fv a0_0 a0_1 a0_2 a0_3 l0_4) := lim_Lim (yH.f_mono a0_0 a0_1 a0_2 a0_3 l0_4)
theorem yH.l0v_eq (x5 : List (S50)) (x19 : List (S50)) (x20 : Int) (x21 : Int) (x347000 : Int) (x347001 : Int) (x347002 : Int) (x347003 : Int) (x347004 : List Int) : yH.l0v x5 x19 x20 x21 x347000 x347001 x347002 x347003 x347004 = if x21 < x20 then (if 0 ≤ x21 then (if x21 < (x19.length : Int) then ((wZ.f).bind fun bt365 => ((yM.fv x347000 x347001 x347002 x347003 x347004 bt365.1 bt365.2.1 bt365.2.2.1 bt365.2.2.2 ((rd_T50 x19 x21).f0) ((rd_T50 x19 x21).f1)).bind fun t369 => (if t369 = true then (if x5.length < 8796093022208 then (yH.l0v (x5 ++ [(⟨(rd_T50 x19 x21).f0, (rd_T50 x19 x21).f1⟩ : S50)]) x19 x20 (wrap64 (x21 + 1)) x347000 x347001 x347002 x347003 x347004) else (none)) else (yH.l0v x5 x19 x20 (wrap64 (x21 + 1)) x347000 x347001 x347002 x347003 x347004)))) else (none)) else (none)) else ((yI.fv x5).bind fun bt360 => (some (bt360.1, bt360.2.1, bt360.2.2))) := by
  refine lim_step (yH.l0_mono x5 x19 x20 x21 x347000 x347001 x347002 x347003 x347004) (fun k => rfl) (f := fun k => yH.l0 (k + 1) x5 x19 x20 x21 x347000 x347001 x347002 x347003 x347004) ?_
  simp only [yH.l0]
  repeat' first
    | (with_reducible exact yH.l0_lim _ _ _ _ _ _ _ _ _)
    | (with_reducible exact yM.f_lim _ _ _ _ _ _ _ _ _ _ _)
    | (with_reducible exact yI.f_lim _)
    | exact Lim.const _
    | refine Lim.ite ?_ ?_
    | refine Lim.bind ?_ (fun _ => ?_)
theorem yH.fv_eq (a0_0 : Int) (a0_1 : Int) (a0_2 : Int) (a0_3 : Int) (l0_4 : List Int) : yH.fv a0_0 a0_1 a0_2 a0_3 l0_4 = (xR.f a0_1 a0_2 a0_3).bind fun bt348 => ((yG.fv a0_1 a0_2 a0_3).bind fun t357 => (yH.l0v (([(⟨bt348.1, bt348.2.1⟩ : S50), (⟨bt348.2.2.1, bt348.2.2.2⟩ : S50)] : List (S50))) t357 (t357.length : Int) 0 a0_0 a0_1 a0_2 a0_3 l0_4)) := by
  refine lim_now (fun k => rfl) (f := fun k => (xR.f a0_1 a0_2 a0_3).bind fun bt348 => ((yG.f k a0_1 a0_2 a0_3).bind fun t357 => (yH.l0 k (([(⟨bt348.1, bt348.2.1⟩ : S50), (⟨bt348.2.2.1, bt348.2.2.2⟩ : S50)] : List (S50))) t357 (t357.length : Int) 0 a0_0 a0_1 a0_2 a0_3 l0_4))) ?_
  repeat' first
    | (with_reducible exact yG.f_lim _ _ _)
    | (with_reducible exact yH.l0_lim _ _ _ _ _ _ _ _ _)
    | exact Lim.const _
    | refine Lim.ite ?_ ?_
    | refine Lim.bind ?_ (fun _ => ?_)
open Go.Proofs.YtioendlbpendpaaW.PrintWords
theorem xK.f_mono (a0_0 : Int) (a0_1 : Int) (a0_2 : Int) (a0_3 : Int) (l0_4 : List Int) : Mono (fun k => xK.f k a0_0 a0_1 a0_2 a0_3 l0_4) := (fun k => xK.mono a0_0 a0_1 a0_2 a0_3 l0_4 k)
noncomputable def xK.fv (a0_0 : Int) (a0_1 : Int) (a0_2 : Int) (a0_3 : Int) (l0_4 : List Int) : Option (Int × Int × Int × Int) := lim (fun k => xK.f k a0_0 a0_1 a0_2 a0_3 l0_4)
theorem xK.f_lim (a0_0 : Int) (a0_1 : Int) (a0_2 : Int) (a0_3 : Int) (l0_4 : List Int) : Lim (fun k => xK.f k a0_0 a0_1 a0_2 a0_3 l0_4) (xK.fv a0_0 a0_1 a0_2 a0_3 l0_4) := lim_Lim (xK.f_mono a0_0 a0_1 a0_2 a0_3 l0_4)
theorem xK.fv_eq (a0_0 : Int) (a0_1 : Int) (a0_2 : Int) (a0_3 : Int) (l0_4 : List Int) : xK.fv a0_0 a0_1 a0_2 a0_3 l0_4 = (xQ.f a0_0 a0_1 a0_2 a0_3 l0_4).bind fun t375 => (if t375 = true then (if a0_0 = 0 then ((yH.fv a0_0 a0_1 a0_2 a0_3 l0_4).bind fun bt376 => (some (bt376.1, bt376.2.1, bt376.2.2, 0))) else (some (0, 0, 0, 1))) else (some (0, 0, 0, 1))) := by
  refine lim_now (fun k => rfl) (f := fun k => (xQ.f a0_0 a0_1 a0_2 a0_3 l0_4).bind fun t375 => (if t375 = true then (if a0_0 = 0 then ((yH.f k a0_0 a0_1 a0_2 a0_3 l0_4).bind fun bt376 => (some (bt376.1, bt376.2.1, bt376.2.2, 0))) else (some (0, 0, 0, 1))) else (some (0, 0, 0, 1)))) ?_
  repeat' first
    | (with_reducible exact yH.f_lim _ _ _ _ _)
    | exact Lim.const _
    | refine Lim.ite ?_ ?_
    | refine Lim.bind ?_ (fun _ => ?_)
open Go.Proofs.YtioendlbpendpaaW.PrintWords
theorem yW.l0_mono (x5 : List (S50)) (x6 : Int) (x153000 : Int) (x153001 : Int) (x153002 : Int) (x153003 : Int) (x153004 : List Int) (x154000 : Int) (x154001 : Int) (x154002 : Int) (x154003 : Int) (x154004 : Int) (x154005 : Int) : Mono (fun k => yW.l0 k x5 x6 x153000 x153001 x153002 x153003 x153004 x154000 x154001 x154002 x154003 x154004 x154005) := (fun k => (yW.mono_l k) x5 x6 x153000 x153001 x153002 x153003 x153004 x154000 x154001 x154002 x154003 x154004 x154005)
noncomputable def yW.l0v (x5 : List (S50)) (x6 : Int) (x153000 : Int) (x153001 : Int) (x153002 : Int) (x153003 : Int) (x153004 : List Int) (x154000 : Int) (x154001 : Int) (x154002 : Int) (x154003 : Int) (x154004 : Int) (x154005 : Int) : Option (Bool) := lim (fun k => yW.l0 k x5 x6 x153000 x153001 x153002 x153003 x153004 x154000 x154001 x154002 x154003 x154004 x154005)
theorem yW.l0_lim (x5 : List (S50)) (x6 : Int) (x153000 : Int) (x153001 : Int) (x153002 : Int) (x153003 : Int) (x153004 : List Int) (x154000 : Int) (x154001 : Int) (x154002 : Int) (x154003 : Int) (x154004 : Int) (x154005 : Int) : Lim (fun k => yW.l0 k x5 x6 x153000 x153001 x153002 x153003 x153004 x154000 x154001 x154002 x154003 x154004 x154005) (yW.l0v x5 x6 x153000 x153001 x153002 x153003 x153004 x154000 x154001 x154002 x154003 x154004 x154005) := lim_Lim (yW.l0_mono x5 x6 x153000 x153001 x153002 x153003 x153004 x154000 x154001 x154002 x154003 x154004 x154005)
theorem yW.f_mono (a0_0 : Int) (a0_1 : Int) (a0_2 : Int) (a0_3 : Int) (l0_4 : List Int) (a1_0 : Int) (a1_1 : Int) (a1_2 : Int) (a1_3 : Int) (a1_4 : Int) (a1_5 : Int) : Mono (fun k => yW.f k a0_0 a0_1 a0_2 a0_3 l0_4 a1_0 a1_1 a1_2 a1_3 a1_4 a1_5) := (fun k => yW.mono a0_0 a0_1 a0_2 a0_3 l0_4 a1_0 a1_1 a1_2 a1_3 a1_4 a1_5 k)
noncomputable def yW.fv (a0_0 : Int) (a0_1 : Int) (a0_2 : Int) (a0_3 : Int) (l0_4 : List Int) (a1_0 : Int) (a1_1 : Int) (a1_2 : Int) (a1_3 : Int) (a1_4 : Int) (a1_5 : Int) : Option (Bool) := lim (fun k => yW.f k a0_0 a0_1 a0_2 a0_3 l0_4 a1_0 a1_1 a1_2 a1_3 a1_4 a1_5)
theorem yW.f_lim (a0_0 : Int) (a0_1 : Int) (a0_2 : Int) (a0_3 : Int) (l0_4 : List Int) (a1_0 : Int) (a1_1 : Int) (a1_2 : Int) (a1_3 : Int) (a1_4 : Int) (a1_5 : Int) : Lim (fun k => yW.f k a0_0 a0_1 a0_2 a0_3 l0_4 a1_0 a1_1 a1_2 a1_3 a1_4 a1_5) (yW.fv a0_0 a0_1 a0_2 a0_3 l0_4 a1_0 a1_1 a1_2 a1_3 a1_4 a1_5) := lim_Lim (yW.f_mono a0_0 a0_1 a0_2 a0_3 l0_4 a1_0 a1_1 a1_2 a1_3 a1_4 a1_5)
theorem yW.l0v_eq (x5 : List (S50)) (x6 : Int) (x153000 : Int) (x153001 : Int) (x153002 : Int) (x153003 : Int) (x153004 : List Int) (x154000 : Int) (x154001 : Int) (x154002 : Int) (x154003 : Int) (x154004 : Int) (x154005 : Int) : yW.l0v x5 x6 x153000 x153001 x153002 x153003 x153004 x154000 x154001 x154002 x154003 x154004 x154005 = if x6 < (x5.length : Int) then (if 0 ≤ x6 then ((xZ.f x154000 x154001 x154002 x154003 x154004 x154005 ((rd_T50 x5 x6).f0) ((rd_T50 x5 x6).f1)).bind fun bt158 => ((xY.f x153000 x153001 x153002 x153003 x153004 bt158.1 bt158.2).bind fun t160 => ((xY.f x153000 x153001 x153002 x153003 x153004 ((rd_T50 x5 x6).f0) ((rd_T50 x5 x6).f1)).bind fun t162 => (if t160 = t162 then (yW.l0v x5 (wrap64 (x6 + 1)) x153000 x153001 x153002 x153003 x153004 x154000 x154001 x154002 x154003 x154004 x154005) else (some false))))) else (none)) else (some true) := by
  refine lim_step (yW.l0_mono x5 x6 x153000 x153001 x153002 x153003 x153004 x154000 x154001 x154002 x154003 x154004 x154005) (fun k => rfl) (f := fun k => yW.l0 (k + 1) x5 x6 x153000 x153001 x153002 x153003 x153004 x154000 x154001 x154002 x154003 x154004 x154005) ?_
  simp only [yW.l0]
  repeat' first
    | (with_reducible exact yW.l0_lim _ _ _ _ _ _ _ _ _ _ _ _ _)
    | exact Lim.const _
    | refine Lim.ite ?_ ?_
    | refine Lim.bind ?_ (fun _ => ?_)
theorem yW.fv_eq (a0_0 : Int) (a0_1 : Int) (a0_2 : Int) (a0_3 : Int) (l0_4 : List Int) (a1_0 : Int) (a1_1 : Int) (a1_2 : Int) (a1_3 : Int) (a1_4 : Int) (a1_5 : Int) : yW.fv a0_0 a0_1 a0_2 a0_3 l0_4 a1_0 a1_1 a1_2 a1_3 a1_4 a1_5 = (yO.fv a0_1 a0_2 a0_3).bind fun t154 => (yW.l0v t154 0 a0_0 a0_1 a0_2 a0_3 l0_4 a1_0 a1_1 a1_2 a1_3 a1_4 a1_5) := by
  refine lim_now (fun k => rfl) (f := fun k => (yO.f k a0_1 a0_2 a0_3).bind fun t154 => (yW.l0 k t154 0 a0_0 a0_1 a0_2 a0_3 l0_4 a1_0 a1_1 a1_2 a1_3 a1_4 a1_5)) ?_
  repeat' first
    | (with_reducible exact yO.f_lim _ _ _)
    | (with_reducible exact yW.l0_lim _ _ _ _ _ _ _ _ _ _ _ _ _)
    | exact Lim.const _
    | refine Lim.ite ?_ ?_
    | refine Lim.bind ?_ (fun _ => ?_)
open Go.Proofs.YtioendlbpendpaaW.PrintWords
theorem yX.l0_mono (x3 : List (S50)) (x4 : List (S50)) (x5 : Int) (x179000 : Int) (x179001 : Int) (x179002 : Int) (x179003 : Int) (x179004 : List Int) : Mono (fun k => yX.l0 k x3 x4 x5 x179000 x179001 x179002 x179003 x179004) := (fun k => (yX.mono_l k) x3 x4 x5 x179000 x179001 x179002 x179003 x179004)
noncomputable def yX.l0v (x3 : List (S50)) (x4 : List (S50)) (x5 : Int) (x179000 : Int) (x179001 : Int) (x179002 : Int) (x179003 : Int) (x179004 : List Int) : Option (Int × Int × Int) := lim (fun k => yX.l0 k x3 x4 x5 x179000 x179001 x179002 x179003 x179004)
theorem yX.l0_lim (x3 : List (S50)) (x4 : List (S50)) (x5 : Int) (x179000 : Int) (x179001 : Int) (x179002 : Int) (x179003 : Int) (x179004 : List Int) : Lim (fun k => yX.l0 k x3 x4 x5 x179000 x179001 x179002 x179003 x179004) (yX.l0v x3 x4 x5 x179000 x179001 x179002 x179003 x179004) := lim_Lim (yX.l0_mono x3 x4 x5 x179000 x179001 x179002 x179003 x179004)
theorem yX.f_mono (a0_0 : Int) (a0_1 : Int) (a0_2 : Int) (a0_3 : Int) (l0_4 : List Int) : Mono (fun k => yX.f k a0_0 a0_1 a0_2 a0_3 l0_4) := (fun k => yX.mono a0_0 a0_1 a0_2 a0_3 l0_4 k)
noncomputable def yX.fv (a0_0 : Int) (a0_1 : Int) (a0_2 : Int) (a0_3 : Int) (l0_4 : List Int) : Option (Int × Int × Int) := lim (fun k => yX.f k a0_0 a0_1 a0_2 a0_3 l0_4)
theorem yX.f_lim (a0_0 : Int) (a0_1 : Int) (a0_2 : Int) (a0_3 : Int) (l0_4 : List Int) : Lim (fun k => yX.f k a0_0 a0_1 a0_2 a0_3 l0_4) (yX.fv a0_0 a0_1 a0_2 a0_3 l0_4) := lim_Lim (yX.f_mono a0_0 a0_1 a0_2 a0_3 l0_4)
theorem yX.l0v_eq (x3 : List (S50)) (x4 : List (S50)) (x5 : Int) (x179000 : Int) (x179001 : Int) (x179002 : Int) (x179003 : Int) (x179004 : List Int) : yX.l0v x3 x4 x5 x179000 x179001 x179002 x179003 x179004 = if x5 < (x3.length : Int) then ((wY.f).bind fun bt189 => (if 0 ≤ x5 then ((yW.fv x179000 x179001 x179002 x179003 x179004 bt189.1 bt189.2.1 bt189.2.2.1 bt189.2.2.2 ((rd_T50 x3 x5).f0) ((rd_T50 x3 x5).f1)).bind fun t194 => (if t194 = true then (if x4.length < 8796093022208 then (yX.l0v x3 (x4 ++ [(⟨(rd_T50 x3 x5).f0, (rd_T50 x3 x5).f1⟩ : S50)]) (wrap64 (x5 + 1)) x179000 x179001 x179002 x179003 x179004) else (none)) else (yX.l0v x3 x4 (wrap64 (x5 + 1)) x179000 x179001 x179002 x179003 x179004))) else (none))) else ((yJ.fv x4).bind fun bt186 => (some (bt186.1, bt186.2.1, bt186.2.2))) := by
  refine lim_step (yX.l0_mono x3 x4 x5 x179000 x179001 x179002 x179003 x179004) (fun k => rfl) (f := fun k => yX.l0 (k + 1) x3 x4 x5 x179000 x179001 x179002 x179003 x179004) ?_
  simp only [yX.l0]
  repeat' first
    | (with_reducible exact yJ.f_lim _)
    | (with_reducible exact yX.l0_lim _ _ _ _ _ _ _ _)
    | (with_reducible exact yW.f_lim _ _ _ _ _ _ _ _ _ _ _)
    | exact Lim.const _
    | refine Lim.ite ?_ ?_
    | refine Lim.bind ?_ (fun _ => ?_)
theorem yX.fv_eq (a0_0 : Int) (a0_1 : Int) (a0_2 : Int) (a0_3 : Int) (l0_4 : List Int) : yX.fv a0_0 a0_1 a0_2 a0_3 l0_4 = (yO.fv a0_1 a0_2 a0_3).bind fun t180 => ((wP.f a0_1 a0_2 a0_3).bind fun t183 => (yX.l0v t180 t183 0 a0_0 a0_1 a0_2 a0_3 l0_4)) := by
  refine lim_now (fun k => rfl) (f := fun k => (yO.f k a0_1 a0_2 a0_3).bind fun t180 => ((wP.f a0_1 a0_2 a0_3).bind fun t183 => (yX.l0 k t180 t183 0 a0_0 a0_1 a0_2 a0_3 l0_4))) ?_
  repeat' first
    | (with_reducible exact yO.f_lim _ _ _)
    | (with_reducible exact yX.l0_lim _ _ _ _ _ _ _ _)
    | exact Lim.const _
    | refine Lim.ite ?_ ?_
    | refine Lim.bind ?_ (fun _ => ?_)
open Go.Proofs.YtioendlbpendpaaW.PrintWords
theorem yU.j0_mono (x1 : Bool) (x13 : Bool) (x200000 : Int) (x200001 : Int) (x200002 : Int) (x200003 : Int) (x200004 : List Int) : Mono (fun k => yU.j0 k x1 x13 x200000 x200001 x200002 x200003 x200004) := (fun k => (yU.mono_l k) x1 x13 x200000 x200001 x200002 x200003 x200004)
noncomputable def yU.j0v (x1 : Bool) (x13 : Bool) (x200000 : Int) (x200001 : Int) (x200002 : Int) (x200003 : Int) (x200004 : List Int) : Option (Int × Int × Int × Int) := lim (fun k => yU.j0 k x1 x13 x200000 x200001 x200002 x200003 x200004)
theorem yU.j0_lim (x1 : Bool) (x13 : Bool) (x200000 : Int) (x200001 : Int) (x200002 : Int) (x200003 : Int) (x200004 : List Int) : Lim (fun k => yU.j0 k x1 x13 x200000 x200001 x200002 x200003 x200004) (yU.j0v x1 x13 x200000 x200001 x200002 x200003 x200004) := lim_Lim (yU.j0_mono x1 x13 x200000 x200001 x200002 x200003 x200004)
theorem yU.f_mono (a0_0 : Int) (a0_1 : Int) (a0_2 : Int) (a0_3 : Int) (l0_4 : List Int) (a1 : Bool) : Mono (fun k => yU.f k a0_0 a0_1 a0_2 a0_3 l0_4 a1) := (fun k => yU.mono a0_0 a0_1 a0_2 a0_3 l0_4 a1 k)
noncomputable def yU.fv (a0_0 : Int) (a0_1 : Int) (a0_2 : Int) (a0_3 : Int) (l0_4 : List Int) (a1 : Bool) : Option (Int × Int × Int × Int) := lim (fun k => yU.f k a0_0 a0_1 a0_2 a0_3 l0_4 a1)
theorem yU.f_lim (a0_0 : Int) (a0_1 : Int) (a0_2 : Int) (a0_3 : Int) (l0_4 : List Int) (a1 : Bool) : Lim (fun k => yU.f k a0_0 a0_1 a0_2 a0_3 l0_4 a1) (yU.fv a0_0 a0_1 a0_2 a0_3 l0_4 a1) := lim_Lim (yU.f_mono a0_0 a0_1 a0_2 a0_3 l0_4 a1)
theorem yU.j0v_eq (x1 : Bool) (x13 : Bool) (x200000 : Int) (x200001 : Int) (x200002 : Int) (x200003 : Int) (x200004 : List Int) : yU.j0v x1 x13 x200000 x200001 x200002 x200003 x200004 = if x13 = true then (some (0, 0, 0, 1)) else (if x1 = true then ((yX.fv x200000 x200001 x200002 x200003 x200004).bind fun bt202 => (some (bt202.1, bt202.2.1, bt202.2.2, 0))) else (some (0, 0, 0, 2))) := by
  refine lim_step (yU.j0_mono x1 x13 x200000 x200001 x200002 x200003 x200004) (fun k => rfl) (f := fun k => yU.j0 (k + 1) x1 x13 x200000 x200001 x200002 x200003 x200004) ?_
  simp only [yU.j0]
  repeat' first
    | (with_reducible exact yX.f_lim _ _ _ _ _)
    | exact Lim.const _
    | refine Lim.ite ?_ ?_
    | refine Lim.bind ?_ (fun _ => ?_)
theorem yU.fv_eq (a0_0 : Int) (a0_1 : Int) (a0_2 : Int) (a0_3 : Int) (l0_4 : List Int) (a1 : Bool) : yU.fv a0_0 a0_1 a0_2 a0_3 l0_4 a1 = (xN.fv a0_0 a0_1 a0_2 a0_3 l0_4).bind fun t201 => (if t201 = true then (yU.j0v a1 (a0_0 != 0) a0_0 a0_1 a0_2 a0_3 l0_4) else (yU.j0v a1 true a0_0 a0_1 a0_2 a0_3 l0_4)) := by
  refine lim_now (fun k => rfl) (f := fun k => (xN.f k a0_0 a0_1 a0_2 a0_3 l0_4).bind fun t201 => (if t201 = true then (yU.j0 k a1 (a0_0 != 0) a0_0 a0_1 a0_2 a0_3 l0_4) else (yU.j0 k a1 true a0_0 a0_1 a0_2 a0_3 l0_4))) ?_
  repeat' first
    | (with_reducible exact xN.f_lim _ _ _ _ _)
    | (with_reducible exact yU.j0_lim _ _ _ _ _ _ _)
    | exact Lim.const _
    | refine Lim.ite ?_ ?_
    | refine Lim.bind ?_ (fun _ => ?_)
open Go.Proofs.YtioendlbpendpaaW.PrintWords
theorem yT.l0_mono (x3 : Int) (x210000 : Int) (x210001 : Int) (x210002 : Int) : Mono (fun k => yT.l0 k x3 x210000 x210001 x210002) := (fun k => (yT.mono_l k) x3 x210000 x210001 x210002)
noncomputable def yT.l0v (x3 : Int) (x210000 : Int) (x210001 : Int) (x210002 : Int) : Option (Int) := lim (fun k => yT.l0 k x3 x210000 x210001 x210002)
theorem yT.l0_lim (x3 : Int) (x210000 : Int) (x210001 : Int) (x210002 : Int) : Lim (fun k => yT.l0 k x3 x210000 x210001 x210002) (yT.l0v x3 x210000 x210001 x210002) := lim_Lim (yT.l0_mono x3 x210000 x210001 x210002)
theorem yT.f_mono (a0_0 : Int) (a0_1 : Int) (a0_2 : Int) : Mono (fun k => yT.f k a0_0 a0_1 a0_2) := (fun k => yT.mono a0_0 a0_1 a0_2 k)
noncomputable def yT.fv (a0_0 : Int) (a0_1 : Int) (a0_2 : Int) : Option (Int) := lim (fun k => yT.f k a0_0 a0_1 a0_2)
theorem yT.f_lim (a0_0 : Int) (a0_1 : Int) (a0_2 : Int) : Lim (fun k => yT.f k a0_0 a0_1 a0_2) (yT.fv a0_0 a0_1 a0_2) := lim_Lim (yT.f_mono a0_0 a0_1 a0_2)
theorem yT.l0v_eq (x3 : Int) (x210000 : Int) (x210001 : Int) (x210002 : Int) : yT.l0v x3 x210000 x210001 x210002 = (wN.f x210000 x210001 x210002 0 x3).bind fun t210 => (if t210 = true then (some x3) else (yT.l0v (wrap64 (x3 + 1)) x210000 x210001 x210002)) := by
  refine lim_step (yT.l0_mono x3 x210000 x210001 x210002) (fun k => rfl) (f := fun k => yT.l0 (k + 1) x3 x210000 x210001 x210002) ?_
  simp only [yT.l0]
  repeat' first
    | (with_reducible exact yT.l0_lim _ _ _ _)
    | exact Lim.const _
    | refine Lim.ite ?_ ?_
    | refine Lim.bind ?_ (fun _ => ?_)
theorem yT.fv_eq (a0_0 : Int) (a0_1 : Int) (a0_2 : Int) : yT.fv a0_0 a0_1 a0_2 = yT.l0v 1 a0_0 a0_1 a0_2 := by
  refine lim_now (fun k => rfl) (f := fun k => yT.l0 k 1 a0_0 a0_1 a0_2) ?_
  repeat' first
    | (with_reducible exact yT.l0_lim _ _ _ _)
    | exact Lim.const _
    | refine Lim.ite ?_ ?_
    | refine Lim.bind ?_ (fun _ => ?_)
open Go.Proofs.YtioendlbpendpaaW.PrintWords
theorem xA.l0_mono (x1 : Int) (x6 : Int) (x7 : Int) (x212000 : Int) (x212001 : Int) (x212002 : Int) : Mono (fun k => xA.l0 k x1 x6 x7 x212000 x212001 x212002) := (fun k => (xA.mono_l k) x1 x6 x7 x212000 x212001 x212002)
noncomputable def xA.l0v (x1 : Int) (x6 : Int) (x7 : Int) (x212000 : Int) (x212001 : Int) (x212002 : Int) : Option (Int × Bool) := lim (fun k => xA.l0 k x1 x6 x7 x212000 x212001 x212002)
theorem xA.l0_lim (x1 : Int) (x6 : Int) (x7 : Int) (x212000 : Int) (x212001 : Int) (x212002 : Int) : Lim (fun k => xA.l0 k x1 x6 x7 x212000 x212001 x212002) (xA.l0v x1 x6 x7 x212000 x212001 x212002) := lim_Lim (xA.l0_mono x1 x6 x7 x212000 x212001 x212002)
theorem xA.f_mono (a0_0 : Int) (a0_1 : Int) (a0_2 : Int) (a1 : Int) : Mono (fun k => xA.f k a0_0 a0_1 a0_2 a1) := (fun k => xA.mono a0_0 a0_1 a0_2 a1 k)
noncomputable def xA.fv (a0_0 : Int) (a0_1 : Int) (a0_2 : Int) (a1 : Int) : Option (Int × Bool) := lim (fun k => xA.f k a0_0 a0_1 a0_2 a1)
theorem xA.f_lim (a0_0 : Int) (a0_1 : Int) (a0_2 : Int) (a1 : Int) : Lim (fun k => xA.f k a0_0 a0_1 a0_2 a1) (xA.fv a0_0 a0_1 a0_2 a1) := lim_Lim (xA.f_mono a0_0 a0_1 a0_2 a1)
theorem xA.l0v_eq (x1 : Int) (x6 : Int) (x7 : Int) (x212000 : Int) (x212001 : Int) (x212002 : Int) : xA.l0v x1 x6 x7 x212000 x212001 x212002 = if x7 < x6 then ((wN.f x212000 x212001 x212002 x1 (wrap64 (-x7))).bind fun t213 => (if t213 = true then (some (x7, true)) else (xA.l0v x1 x6 (wrap64 (x7 + 1)) x212000 x212001 x212002))) else (some (0, false)) := by
  refine lim_step (xA.l0_mono x1 x6 x7 x212000 x212001 x212002) (fun k => rfl) (f := fun k => xA.l0 (k + 1) x1 x6 x7 x212000 x212001 x212002) ?_
  simp only [xA.l0]
  repeat' first
    | (with_reducible exact xA.l0_lim _ _ _ _ _ _)
    | exact Lim.const _
    | refine Lim.ite ?_ ?_
    | refine Lim.bind ?_ (fun _ => ?_)
theorem xA.fv_eq (a0_0 : Int) (a0_1 : Int) (a0_2 : Int) (a1 : Int) : xA.fv a0_0 a0_1 a0_2 a1 = (yT.fv a0_0 a0_1 a0_2).bind fun t212 => (xA.l0v a1 t212 0 a0_0 a0_1 a0_2) := by
  refine lim_now (fun k => rfl) (f := fun k => (yT.f k a0_0 a0_1 a0_2).bind fun t212 => (xA.l0 k a1 t212 0 a0_0 a0_1 a0_2)) ?_
  repeat' first
    | (with_reducible exact xA.l0_lim _ _ _ _ _ _)
    | (with_reducible exact yT.f_lim _ _ _)
    | exact Lim.const _
    | refine Lim.ite ?_ ?_
    | refine Lim.bind ?_ (fun _ => ?_)
open Go.Proofs.YtioendlbpendpaaW.PrintWords
theorem yP.l0_mono (x0 : Int) (x1 : Int) (x2 : Int) (x3 : Int) (x9 : List Int) (x10 : Int) : Mono (fun k => yP.l0 k x0 x1 x2 x3 x9 x10) := (fun k => (yP.mono_l k) x0 x1 x2 x3 x9 x10)
noncomputable def yP.l0v (x0 : Int) (x1 : Int) (x2 : Int) (x3 : Int) (x9 : List Int) (x10 : Int) : Option (List Int) := lim (fun k => yP.l0 k x0 x1 x2 x3 x9 x10)
theorem yP.l0_lim (x0 : Int) (x1 : Int) (x2 : Int) (x3 : Int) (x9 : List Int) (x10 : Int) : Lim (fun k => yP.l0 k x0 x1 x2 x3 x9 x10) (yP.l0v x0 x1 x2 x3 x9 x10) := lim_Lim (yP.l0_mono x0 x1 x2 x3 x9 x10)
theorem yP.f_mono (a0 : Int) (a1 : Int) (a2 : Int) (a3 : Int) : Mono (fun k => yP.f k a0 a1 a2 a3) := (fun k => yP.mono a0 a1 a2 a3 k)
noncomputable def yP.fv (a0 : Int) (a1 : Int) (a2 : Int) (a3 : Int) : Option (List Int) := lim (fun k => yP.f k a0 a1 a2 a3)
theorem yP.f_lim (a0 : Int) (a1 : Int) (a2 : Int) (a3 : Int) : Lim (fun k => yP.f k a0 a1 a2 a3) (yP.fv a0 a1 a2 a3) := lim_Lim (yP.f_mono a0 a1 a2 a3)
theorem yP.l0v_eq (x0 : Int) (x1 : Int) (x2 : Int) (x3 : Int) (x9 : List Int) (x10 : Int) : yP.l0v x0 x1 x2 x3 x9 x10 = if x10 < x3 then (if 0 ≤ (wrap64 (x10 - 1)) then (if (wrap64 (x10 - 1)) < (x9.length : Int) then ((wG.f (wrap64 ((wrap64 (x10 * x1)) - (wrap64 ((rd x9 (wrap64 (x10 - 1))) + x2)))) x0).bind fun t410 => (if x9.length < 17592186044416 then (yP.l0v x0 x1 x2 x3 (x9 ++ [wrap64 ((wrap64 ((rd x9 (wrap64 (x10 - 1))) + x2)) + t410)]) (wrap64 (x10 + 1))) else (none))) else (none)) else (none)) else (some x9) := by
  refine lim_step (yP.l0_mono x0 x1 x2 x3 x9 x10) (fun k => rfl) (f := fun k => yP.l0 (k + 1) x0 x1 x2 x3 x9 x10) ?_
  simp only [yP.l0]
  repeat' first
    | (with_reducible exact yP.l0_lim _ _ _ _ _ _)
    | exact Lim.const _
    | refine Lim.ite ?_ ?_
    | refine Lim.bind ?_ (fun _ => ?_)
theorem yP.fv_eq (a0 : Int) (a1 : Int) (a2 : Int) (a3 : Int) : yP.fv a0 a1 a2 a3 = yP.l0v a0 a1 a2 a3 (([0] : List Int)) 1 := by
  refine lim_now (fun k => rfl) (f := fun k => yP.l0 k a0 a1 a2 a3 (([0] : List Int)) 1) ?_
  repeat' first
    | (with_reducible exact yP.l0_lim _ _ _ _ _ _)
    | exact Lim.const _
    | refine Lim.ite ?_ ?_
    | refine Lim.bind ?_ (fun _ => ?_)
open Go.Proofs.YtioendlbpendpaaW.PrintWords
theorem xB.j0_mono (x1 : Int) (x26 : Bool) (x402000 : Int) (x402001 : Int) (x402002 : Int) : Mono (fun k => xB.j0 k x1 x26 x402000 x402001 x402002) := (fun k => (xB.mono_l k) x1 x26 x402000 x402001 x402002)
noncomputable def xB.j0v (x1 : Int) (x26 : Bool) (x402000 : Int) (x402001 : Int) (x402002 : Int) : Option (Int × Int × Int) := lim (fun k => xB.j0 k x1 x26 x402000 x402001 x402002)
theorem xB.j0_lim (x1 : Int) (x26 : Bool) (x402000 : Int) (x402001 : Int) (x402002 : Int) : Lim (fun k => xB.j0 k x1 x26 x402000 x402001 x402002) (xB.j0v x1 x26 x402000 x402001 x402002) := lim_Lim (xB.j0_mono x1 x26 x402000 x402001 x402002)
theorem xB.f_mono (a0_0 : Int) (a0_1 : Int) (a0_2 : Int) (a0_3 : Int) (l0_4 : List Int) (a1 : Int) (a2 : Bool) : Mono (fun k => xB.f k a0_0 a0_1 a0_2 a0_3 l0_4 a1 a2) := (fun k => xB.mono a0_0 a0_1 a0_2 a0_3 l0_4 a1 a2 k)
noncomputable def xB.fv (a0_0 : Int) (a0_1 : Int) (a0_2 : Int) (a0_3 : Int) (l0_4 : List Int) (a1 : Int) (a2 : Bool) : Option (Int × Int × Int) := lim (fun k => xB.f k a0_0 a0_1 a0_2 a0_3 l0_4 a1 a2)
theorem xB.f_lim (a0_0 : Int) (a0_1 : Int) (a0_2 : Int) (a0_3 : Int) (l0_4 : List Int) (a1 : Int) (a2 : Bool) : Lim (fun k => xB.f k a0_0 a0_1 a0_2 a0_3 l0_4 a1 a2) (xB.fv a0_0 a0_1 a0_2 a0_3 l0_4 a1 a2) := lim_Lim (xB.f_mono a0_0 a0_1 a0_2 a0_3 l0_4 a1 a2)
theorem xB.j0v_eq (x1 : Int) (x26 : Bool) (x402000 : Int) (x402001 : Int) (x402002 : Int) : xB.j0v x1 x26 x402000 x402001 x402002 = if x26 = true then (some (0, 0, 2)) else ((yR.fv x402000 x402001 x402002 x1).bind fun t403 => (if t403 < 0 then (some (0, 0, 4)) else ((xE.fv x402000 x402001 x402002).bind fun t404 => (some (t404, t403, 0))))) := by
  refine lim_step (xB.j0_mono x1 x26 x402000 x402001 x402002) (fun k => rfl) (f := fun k => xB.j0 (k + 1) x1 x26 x402000 x402001 x402002) ?_
  simp only [xB.j0]
  repeat' first
    | (with_reducible exact yR.f_lim _ _ _ _)
    | (with_reducible exact xE.f_lim _ _ _)
    | exact Lim.const _
    | refine Lim.ite ?_ ?_
    | refine Lim.bind ?_ (fun _ => ?_)
theorem xB.fv_eq (a0_0 : Int) (a0_1 : Int) (a0_2 : Int) (a0_3 : Int) (l0_4 : List Int) (a1 : Int) (a2 : Bool) : xB.fv a0_0 a0_1 a0_2 a0_3 l0_4 a1 a2 = (xK.fv a0_0 a0_1 a0_2 a0_3 l0_4).bind fun bt397 => (if bt397.2.2.2 = 0 then ((wC.f a1).bind fun t402 => (if t402 = true then (xB.j0v a1 (!a2) bt397.1 bt397.2.1 bt397.2.2.1) else (xB.j0v a1 true bt397.1 bt397.2.1 bt397.2.2.1))) else (some (0, 0, bt397.2.2.2))) := by
  refine lim_now (fun k => rfl) (f := fun k => (xK.f k a0_0 a0_1 a0_2 a0_3 l0_4).bind fun bt397 => (if bt397.2.2.2 = 0 then ((wC.f a1).bind fun t402 => (if t402 = true then (xB.j0 k a1 (!a2) bt397.1 bt397.2.1 bt397.2.2.1) else (xB.j0 k a1 true bt397.1 bt397.2.1 bt397.2.2.1))) else (some (0, 0, bt397.2.2.2)))) ?_
  repeat' first
    | (with_reducible exact xB.j0_lim _ _ _ _ _)
    | (with_reducible exact xK.f_lim _ _ _ _ _)
    | exact Lim.const _
    | refine Lim.ite ?_ ?_
    | refine Lim.bind ?_ (fun _ => ?_)
open Go.Proofs.YtioendlbpendpaaW.PrintWords
theorem yV.l0_mono (x0 : Int) (x1 : Int) (x2 : Int) (x3 : Int) (x9 : List Int) (x10 : Int) : Mono (fun k => yV.l0 k x0 x1 x2 x3 x9 x10) := (fun k => (yV.mono_l k) x0 x1 x2 x3 x9 x10)
noncomputable def yV.l0v (x0 : Int) (x1 : Int) (x2 : Int) (x3 : Int) (x9 : List Int) (x10 : Int) : Option (List Int) := lim (fun k => yV.l0 k x0 x1 x2 x3 x9 x10)
theorem yV.l0_lim (x0 : Int) (x1 : Int) (x2 : Int) (x3 : Int) (x9 : List Int) (x10 : Int) : Lim (fun k => yV.l0 k x0 x1 x2 x3 x9 x10) (yV.l0v x0 x1 x2 x3 x9 x10) := lim_Lim (yV.l0_mono x0 x1 x2 x3 x9 x10)
theorem yV.f_mono (a0 : Int) (a1 : Int) (a2 : Int) (a3 : Int) : Mono (fun k => yV.f k a0 a1 a2 a3) := (fun k => yV.mono a0 a1 a2 a3 k)
noncomputable def yV.fv (a0 : Int) (a1 : Int) (a2 : Int) (a3 : Int) : Option (List Int) := lim (fun k => yV.f k a0 a1 a2 a3)
theorem yV.f_lim (a0 : Int) (a1 : Int) (a2 : Int) (a3 : Int) : Lim (fun k => yV.f k a0 a1 a2 a3) (yV.fv a0 a1 a2 a3) := lim_Lim (yV.f_mono a0 a1 a2 a3)
theorem yV.l0v_eq (x0 : Int) (x1 : Int) (x2 : Int) (x3 : Int) (x9 : List Int) (x10 : Int) : yV.l0v x0 x1 x2 x3 x9 x10 = if x10 < x3 then (if 0 ≤ (wrap64 (x10 - 1)) then (if (wrap64 (x10 - 1)) < (x9.length : Int) then ((xU.f (wrap64 ((wrap64 (x10 * x1)) - (wrap64 ((rd x9 (wrap64 (x10 - 1))) + x2)))) x0).bind fun t218 => (if x9.length < 17592186044416 then (yV.l0v x0 x1 x2 x3 (x9 ++ [wrap64 ((wrap64 ((rd x9 (wrap64 (x10 - 1))) + x2)) + t218)]) (wrap64 (x10 + 1))) else (none))) else (none)) else (none)) else (some x9) := by
  refine lim_step (yV.l0_mono x0 x1 x2 x3 x9 x10) (fun k => rfl) (f := fun k => yV.l0 (k + 1) x0 x1 x2 x3 x9 x10) ?_
  simp only [yV.l0]
  repeat' first
    | (with_reducible exact yV.l0_lim _ _ _ _ _ _)
    | exact Lim.const _
    | refine Lim.ite ?_ ?_
    | refine Lim.bind ?_ (fun _ => ?_)
theorem yV.fv_eq (a0 : Int) (a1 : Int) (a2 : Int) (a3 : Int) : yV.fv a0 a1 a2 a3 = yV.l0v a0 a1 a2 a3 (([0] : List Int)) 1 := by
  refine lim_now (fun k => rfl) (f := fun k => yV.l0 k a0 a1 a2 a3 (([0] : List Int)) 1) ?_
  repeat' first
    | (with_reducible exact yV.l0_lim _ _ _ _ _ _)
    | exact Lim.const _
    | refine Lim.ite ?_ ?_
    | refine Lim.bind ?_ (fun _ => ?_)
open Go.Proofs.YtioendlbpendpaaW.PrintWords
theorem yS.f_mono (a0_0 : Int) (a0_1 : Int) (a0_2 : Int) (a0_3 : Int) (l0_4 : List Int) (a1 : Int) (a2 : Int) (a3 : Int) : Mono (fun k => yS.f k a0_0 a0_1 a0_2 a0_3 l0_4 a1 a2 a3) := (fun k => yS.mono a0_0 a0_1 a0_2 a0_3 l0_4 a1 a2 a3 k)
noncomputable def yS.fv (a0_0 : Int) (a0_1 : Int) (a0_2 : Int) (a0_3 : Int) (l0_4 : List Int) (a1 : Int) (a2 : Int) (a3 : Int) : Option (List Int × Int) := lim (fun k => yS.f k a0_0 a0_1 a0_2 a0_3 l0_4 a1 a2 a3)
theorem yS.f_lim (a0_0 : Int) (a0_1 : Int) (a0_2 : Int) (a0_3 : Int) (l0_4 : List Int) (a1 : Int) (a2 : Int) (a3 : Int) : Lim (fun k => yS.f k a0_0 a0_1 a0_2 a0_3 l0_4 a1 a2 a3) (yS.fv a0_0 a0_1 a0_2 a0_3 l0_4 a1 a2 a3) := lim_Lim (yS.f_mono a0_0 a0_1 a0_2 a0_3 l0_4 a1 a2 a3)
theorem yS.fv_eq (a0_0 : Int) (a0_1 : Int) (a0_2 : Int) (a0_3 : Int) (l0_4 : List Int) (a1 : Int) (a2 : Int) (a3 : Int) : yS.fv a0_0 a0_1 a0_2 a0_3 l0_4 a1 a2 a3 = (wC.f a2).bind fun t415 => (if t415 = true then ((wK.f a3).bind fun t416 => ((xB.fv a0_0 a0_1 a0_2 a0_3 l0_4 a1 t416).bind fun bt417 => (if bt417.2.2 = 0 then ((yP.fv bt417.1 bt417.2.1 a2 a3).bind fun t420 => (some (t420, 0))) else (some (([] : List Int), bt417.2.2))))) else ((xB.fv a0_0 a0_1 a0_2 a0_3 l0_4 a1 false).bind fun bt423 => (if bt423.2.2 = 0 then ((yP.fv bt423.1 bt423.2.1 a2 a3).bind fun t426 => (some (t426, 0))) else (some (([] : List Int), bt423.2.2))))) := by
  refine lim_now (fun k => rfl) (f := fun k => yS.f k a0_0 a0_1 a0_2 a0_3 l0_4 a1 a2 a3) ?_
  simp only [yS.f]
  repeat' first
    | (with_reducible exact yP.f_lim _ _ _ _)
    | (with_reducible exact xB.f_lim _ _ _ _ _ _ _)
    | exact Lim.const _
    | refine Lim.ite ?_ ?_
    | refine Lim.bind ?_ (fun _ => ?_)
open Go.Proofs.YtioendlbpendpaaW.PrintWords
theorem xV.f_mono (a0_0 : Int) (a0_1 : Int) (a0_2 : Int) (a0_3 : Int) (l0_4 : List Int) (a1 : Int) (a2 : Int) (a3 : Int) : Mono (fun k => xV.f k a0_0 a0_1 a0_2 a0_3 l0_4 a1 a2 a3) := (fun k => xV.mono a0_0 a0_1 a0_2 a0_3 l0_4 a1 a2 a3 k)
noncomputable def xV.fv (a0_0 : Int) (a0_1 : Int) (a0_2 : Int) (a0_3 : Int) (l0_4 : List Int) (a1 : Int) (a2 : Int) (a3 : Int) : Option (Int × Int) := lim (fun k => xV.f k a0_0 a0_1 a0_2 a0_3 l0_4 a1 a2 a3)
theorem xV.f_lim (a0_0 : Int) (a0_1 : Int) (a0_2 : Int) (a0_3 : Int) (l0_4 : List Int) (a1 : Int) (a2 : Int) (a3 : Int) : Lim (fun k => xV.f k a0_0 a0_1 a0_2 a0_3 l0_4 a1 a2 a3) (xV.fv a0_0 a0_1 a0_2 a0_3 l0_4 a1 a2 a3) := lim_Lim (xV.f_mono a0_0 a0_1 a0_2 a0_3 l0_4 a1 a2 a3)
theorem xV.fv_eq (a0_0 : Int) (a0_1 : Int) (a0_2 : Int) (a0_3 : Int) (l0_4 : List Int) (a1 : Int) (a2 : Int) (a3 : Int) : xV.fv a0_0 a0_1 a0_2 a0_3 l0_4 a1 a2 a3 = (yS.fv a0_0 a0_1 a0_2 a0_3 l0_4 a1 a2 a3).bind fun bt430 => (if bt430.2 = 0 then (if 0 ≤ (wrap64 (a3 - 1)) then (if (wrap64 (a3 - 1)) < (bt430.1.length : Int) then (some (wrap64 ((rd bt430.1 (wrap64 (a3 - 1))) + a2), 0)) else (none)) else (none)) else (some (0, bt430.2))) := by
  refine lim_now (fun k => rfl) (f := fun k => (yS.f k a0_0 a0_1 a0_2 a0_3 l0_4 a1 a2 a3).bind fun bt430 => (if bt430.2 = 0 then (if 0 ≤ (wrap64 (a3 - 1)) then (if (wrap64 (a3 - 1)) < (bt430.1.length : Int) then (some (wrap64 ((rd bt430.1 (wrap64 (a3 - 1))) + a2), 0)) else (none)) else (none)) else (some (0, bt430.2)))) ?_
  repeat' first
    | (with_reducible exact yS.f_lim _ _ _ _ _ _ _ _)
    | exact Lim.const _
    | refine Lim.ite ?_ ?_
    | refine Lim.bind ?_ (fun _ => ?_)
open Go.Proofs.YtioendlbpendpaaW.PrintWords
theorem xD.f_mono (a0_0 : Int) (a0_1 : Int) (a0_2 : Int) (a0_3 : Int) (l0_4 : List Int) (a1 : Int) (a2 : Int) (a3 : Int) : Mono (fun k => xD.f k a0_0 a0_1 a0_2 a0_3 l0_4 a1 a2 a3) := (fun k => xD.mono a0_0 a0_1 a0_2 a0_3 l0_4 a1 a2 a3 k)
noncomputable def xD.fv (a0_0 : Int) (a0_1 : Int) (a0_2 : Int) (a0_3 : Int) (l0_4 : List Int) (a1 : Int) (a2 : Int) (a3 : Int) : Option (List Int × Int) := lim (fun k => xD.f k a0_0 a0_1 a0_2 a0_3 l0_4 a1 a2 a3)
theorem xD.f_lim (a0_0 : Int) (a0_1 : Int) (a0_2 : Int) (a0_3 : Int) (l0_4 : List Int) (a1 : Int) (a2 : Int) (a3 : Int) : Lim (fun k => xD.f k a0_0 a0_1 a0_2 a0_3 l0_4 a1 a2 a3) (xD.fv a0_0 a0_1 a0_2 a0_3 l0_4 a1 a2 a3) := lim_Lim (xD.f_mono a0_0 a0_1 a0_2 a0_3 l0_4 a1 a2 a3)
theorem xD.fv_eq (a0_0 : Int) (a0_1 : Int) (a0_2 : Int) (a0_3 : Int) (l0_4 : List Int) (a1 : Int) (a2 : Int) (a3 : Int) : xD.fv a0_0 a0_1 a0_2 a0_3 l0_4 a1 a2 a3 = (xI.f a1 1 1000).bind fun t223 => (if t223 = true then ((xI.f a2 1 1000).bind fun t224 => (if t224 = true then ((xI.f a3 1 100).bind fun t225 => ((yU.fv a0_0 a0_1 a0_2 a0_3 l0_4 t225).bind fun bt226 => (if bt226.2.2.2 = 0 then ((xA.fv bt226.1 bt226.2.1 bt226.2.2.1 a1).bind fun bt231 => (if bt231.2 = true then ((yT.fv bt226.1 bt226.2.1 bt226.2.2.1).bind fun t233 => ((yV.fv t233 bt231.1 a2 a3).bind fun t234 => (some (t234, 0)))) else (some (([] : List Int), 4)))) else (some (([] : List Int), bt226.2.2.2))))) else ((yU.fv a0_0 a0_1 a0_2 a0_3 l0_4 false).bind fun bt237 => (if bt237.2.2.2 = 0 then (none) else (some (([] : List Int), bt237.2.2.2)))))) else ((yU.fv a0_0 a0_1 a0_2 a0_3 l0_4 false).bind fun bt242 => (if bt242.2.2.2 = 0 then (none) else (some (([] : List Int), bt242.2.2.2))))) := by
  refine lim_now (fun k => rfl) (f := fun k => xD.f k a0_0 a0_1 a0_2 a0_3 l0_4 a1 a2 a3) ?_
  simp only [xD.f]
  repeat' first
    | (with_reducible exact yU.f_lim _ _ _ _ _ _)
    | (with_reducible exact xA.f_lim _ _ _ _)
    | (with_reducible exact yT.f_lim _ _ _)
    | (with_reducible exact yV.f_lim _ _ _ _)
    | exact Lim.const _
    | refine Lim.ite ?_ ?_
    | refine Lim.bind ?_ (fun _ => ?_)
open Go.Proofs.YtioendlbpendpaaW.PrintWords
theorem xW.f_mono (a0_0 : Int) (a0_1 : Int) (a0_2 : Int) (a0_3 : Int) (l0_4 : List Int) (a1 : Int) (a2 : Int) (a3 : Int) : Mono (fun k => xW.f k a0_0 a0_1 a0_2 a0_3 l0_4 a1 a2 a3) := (fun k => xW.mono a0_0 a0_1 a0_2 a0_3 l0_4 a1 a2 a3 k)
noncomputable def xW.fv (a0_0 : Int) (a0_1 : Int) (a0_2 : Int) (a0_3 : Int) (l0_4 : List Int) (a1 : Int) (a2 : Int) (a3 : Int) : Option (Int × Int) := lim (fun k => xW.f k a0_0 a0_1 a0_2 a0_3 l0_4 a1 a2 a3)
theorem xW.f_lim (a0_0 : Int) (a0_1 : Int) (a0_2 : Int) (a0_3 : Int) (l0_4 : List Int) (a1 : Int) (a2 : Int) (a3 : Int) : Lim (fun k => xW.f k a0_0 a0_1 a0_2 a0_3 l0_4 a1 a2 a3) (xW.fv a0_0 a0_1 a0_2 a0_3 l0_4 a1 a2 a3) := lim_Lim (xW.f_mono a0_0 a0_1 a0_2 a0_3 l0_4 a1 a2 a3)
theorem xW.fv_eq (a0_0 : Int) (a0_1 : Int) (a0_2 : Int) (a0_3 : Int) (l0_4 : List Int) (a1 : Int) (a2 : Int) (a3 : Int) : xW.fv a0_0 a0_1 a0_2 a0_3 l0_4 a1 a2 a3 = (xD.fv a0_0 a0_1 a0_2 a0_3 l0_4 a1 a2 a3).bind fun bt248 => (if bt248.2 = 0 then (if 0 ≤ (wrap64 (a3 - 1)) then (if (wrap64 (a3 - 1)) < (bt248.1.length : Int) then (some (wrap64 ((rd bt248.1 (wrap64 (a3 - 1))) + a2), 0)) else (none)) else (none)) else (some (0, bt248.2))) := by
  refine lim_now (fun k => rfl) (f := fun k => (xD.f k a0_0 a0_1 a0_2 a0_3 l0_4 a1 a2 a3).bind fun bt248 => (if bt248.2 = 0 then (if 0 ≤ (wrap64 (a3 - 1)) then (if (wrap64 (a3 - 1)) < (bt248.1.length : Int) then (some (wrap64 ((rd bt248.1 (wrap64 (a3 - 1))) + a2), 0)) else (none)) else (none)) else (some (0, bt248.2)))) ?_
  repeat' first
    | (with_reducible exact xD.f_lim _ _ _ _ _ _ _ _)
    | exact Lim.const _
    | refine Lim.ite ?_ ?_
    | refine Lim.bind ?_ (fun _ => ?_)
open Go.Proofs.YtioendlbpendpaaW.PrintWords
theorem xH.f_mono (a0_0 : Int) (a0_1 : Int) (a0_2 : Int) (a0_3 : Int) (l0_4 : List Int) (a1 : Int) : Mono (fun k => xH.f k a0_0 a0_1 a0_2 a0_3 l0_4 a1) := (fun k => xH.mono a0_0 a0_1 a0_2 a0_3 l0_4 a1 k)
noncomputable def xH.fv (a0_0 : Int) (a0_1 : Int) (a0_2 : Int) (a0_3 : Int) (l0_4 : List Int) (a1 : Int) : Option (Int × List Int) := lim (fun k => xH.f k a0_0 a0_1 a0_2 a0_3 l0_4 a1)
theorem xH.f_lim (a0_0 : Int) (a0_1 : Int) (a0_2 : Int) (a0_3 : Int) (l0_4 : List Int) (a1 : Int) : Lim (fun k => xH.f k a0_0 a0_1 a0_2 a0_3 l0_4 a1) (xH.fv a0_0 a0_1 a0_2 a0_3 l0_4 a1) := lim_Lim (xH.f_mono a0_0 a0_1 a0_2 a0_3 l0_4 a1)
theorem xH.fv_eq (a0_0 : Int) (a0_1 : Int) (a0_2 : Int) (a0_3 : Int) (l0_4 : List Int) (a1 : Int) : xH.fv a0_0 a0_1 a0_2 a0_3 l0_4 a1 = (yQ.fv l0_4 a1).bind fun bt474 => (some (bt474.1, bt474.2)) := by
  refine lim_now (fun k => rfl) (f := fun k => (yQ.f k l0_4 a1).bind fun bt474 => (some (bt474.1, bt474.2))) ?_
  repeat' first
    | (with_reducible exact yQ.f_lim _ _)
    | exact Lim.const _
    | refine Lim.ite ?_ ?_
    | refine Lim.bind ?_ (fun _ => ?_)
open Go.Proofs.YtioendlbpendpaaW.PrintWords
theorem xF.f_mono (a0_0 : Int) (a0_1 : Int) (a0_2 : Int) (a0_3 : Int) (l0_4 : List Int) (a1 : Int) (a2 : Int) (a3 : Int) : Mono (fun k => xF.f k a0_0 a0_1 a0_2 a0_3 l0_4 a1 a2 a3) := (fun k => xF.mono a0_0 a0_1 a0_2 a0_3 l0_4 a1 a2 a3 k)
noncomputable def xF.fv (a0_0 : Int) (a0_1 : Int) (a0_2 : Int) (a0_3 : Int) (l0_4 : List Int) (a1 : Int) (a2 : Int) (a3 : Int) : Option (Bool) := lim (fun k => xF.f k a0_0 a0_1 a0_2 a0_3 l0_4 a1 a2 a3)
theorem xF.f_lim (a0_0 : Int) (a0_1 : Int) (a0_2 : Int) (a0_3 : Int) (l0_4 : List Int) (a1 : Int) (a2 : Int) (a3 : Int) : Lim (fun k => xF.f k a0_0 a0_1 a0_2 a0_3 l0_4 a1 a2 a3) (xF.fv a0_0 a0_1 a0_2 a0_3 l0_4 a1 a2 a3) := lim_Lim (xF.f_mono a0_0 a0_1 a0_2 a0_3 l0_4 a1 a2 a3)
theorem xF.fv_eq (a0_0 : Int) (a0_1 : Int) (a0_2 : Int) (a0_3 : Int) (l0_4 : List Int) (a1 : Int) (a2 : Int) (a3 : Int) : xF.fv a0_0 a0_1 a0_2 a0_3 l0_4 a1 a2 a3 = (wM.f a0_0 a0_1 a0_2 a0_3 l0_4 1048576).bind fun t478 => (if t478 < 0 then (some true) else ((yZ.fv a0_0 a0_1 a0_2 a0_3 l0_4).bind fun bt479 => ((xD.fv bt479.1 bt479.2.1 bt479.2.2.1 bt479.2.2.2.1 bt479.2.2.2.2 a1 a2 a3).bind fun bt486 => ((yZ.fv a0_0 a0_1 a0_2 a0_3 l0_4).bind fun bt490 => ((yS.fv bt490.1 bt490.2.1 bt490.2.2.1 bt490.2.2.2.1 bt490.2.2.2.2 a1 a2 a3).bind fun bt498 => ((yN.fv bt498.1 bt486.1).bind fun t502 => (if t502 = true then (if bt498.2 = bt486.2 then ((yZ.fv a0_0 a0_1 a0_2 a0_3 l0_4).bind fun bt503 => ((xJ.fv bt490.1 bt490.2.1 bt490.2.2.1 bt490.2.2.2.1 bt490.2.2.2.2 bt503.1 bt503.2.1 bt503.2.2.1 bt503.2.2.2.1 bt503.2.2.2.2).bind fun t510 => (if t510 = true then ((xH.fv bt490.1 bt490.2.1 bt490.2.2.1 bt490.2.2.2.1 bt490.2.2.2.2 1).bind fun bt511 => (if bt511.1 < 0 then (none) else ((yN.fv bt498.1 bt486.1).bind fun t513 => (if t513 = true then ((yQ.fv bt498.1 1).bind fun bt514 => ((yL.fv bt514.2 1).bind fun t516 => (if t516 < 0 then (none) else (if t516 = bt514.1 then ((yZ.fv a0_0 a0_1 a0_2 a0_3 l0_4).bind fun bt517 => ((yS.fv bt517.1 bt517.2.1 bt517.2.2.1 bt517.2.2.2.1 bt517.2.2.2.2 a1 a2 a3).bind fun bt524 => ((yN.fv bt524.1 bt486.1).bind fun t528 => (if t528 = true then (if bt524.2 = bt486.2 then ((yL.fv bt514.2 1).bind fun t529 => (if t529 < 0 then (none) else (if t529 = bt514.1 then (some true) else (none)))) else (none)) else (none))))) else (none))))) else (none))))) else (none)))) else (none)) else (none)))))))) := by
  refine lim_now (fun k => rfl) (f := fun k => xF.f k a0_0 a0_1 a0_2 a0_3 l0_4 a1 a2 a3) ?_
  simp only [xF.f]
  repeat' first
    | (with_reducible exact yS.f_lim _ _ _ _ _ _ _ _)
    | (with_reducible exact yN.f_lim _ _)
    | (with_reducible exact xJ.f_lim _ _ _ _ _ _ _ _ _ _)
    | (with_reducible exact yL.f_lim _ _)
    | (with_reducible exact yQ.f_lim _ _)
    | (with_reducible exact xH.f_lim _ _ _ _ _ _)
    | (with_reducible exact yZ.f_lim _ _ _ _ _)
    | (with_reducible exact xD.f_lim _ _ _ _ _ _ _ _)
    | exact Lim.const _
    | refine Lim.ite ?_ ?_
    | refine Lim.bind ?_ (fun _ => ?_)
end Go.Proofs.Ytioendlbpendpaa.X
