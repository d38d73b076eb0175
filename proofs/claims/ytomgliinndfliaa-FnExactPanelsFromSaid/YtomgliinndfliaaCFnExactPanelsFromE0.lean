/- Part of the proof of the law FnExactPanelsFrom: equations of the plain functions. No condition of its own. -/
import Derived.Test.YtomgliinndfliaaCFnExactPanelsFromD0
namespace Go.Proofs.Ytomgliinndfliaa.X
open Go.RowKit Go.Proofs.YtomgliinndfliaaW.PrintWords Go.Proofs.YtomgliinndfliaaW.PrintLast Go.Proofs.YtomgliinndfliaaW.PrintMore
attribute [local go_sem] max2_int min2_int max_two min_two max_three min_three max_four min_four   -- for this text's walks alone
set_option linter.unusedVariables false
set_option linter.unusedSimpArgs false
open Go.Proofs.YtomgliinndfliaaW.PrintWords
theorem yY.l0_mono (x0 : List Int) (x1 : List Int) (x5 : Int) : Mono (fun k => yY.l0 k x0 x1 x5) := (fun k => (yY.mono_l k) x0 x1 x5)
noncomputable def yY.l0v (x0 : List Int) (x1 : List Int) (x5 : Int) : Option (Bool) := lim (fun k => yY.l0 k x0 x1 x5)
theorem yY.l0_lim (x0 : List Int) (x1 : List Int) (x5 : Int) : Lim (fun k => yY.l0 k x0 x1 x5) (yY.l0v x0 x1 x5) := lim_Lim (yY.l0_mono x0 x1 x5)
theorem yY.f_mono (l0 : List Int) (l1 : List Int) : Mono (fun k => yY.f k l0 l1) := (fun k => yY.mono l0 l1 k)
noncomputable def yY.fv (l0 : List Int) (l1 : List Int) : Option (Bool) := lim (fun k => yY.f k l0 l1)
theorem yY.f_lim (l0 : List Int) (l1 : List Int) : Lim (fun k => yY.f k l0 l1) (yY.fv l0 l1) := lim_Lim (yY.f_mono l0 l1)
theorem yY.l0v_eq (x0 : List Int) (x1 : List Int) (x5 : Int) : yY.l0v x0 x1 x5 = if x5 < (x0.length : Int) then (if 0 ≤ x5 then (if x5 < (x1.length : Int) then (if (rd x0 x5) = (rd x1 x5) then (yY.l0v x0 x1 (wrap64 (x5 + 1))) else (some false)) else (none)) else (none)) else (some true) := by
  refine lim_step (yY.l0_mono x0 x1 x5) (fun k => rfl) (f := fun k => yY.l0 (k + 1) x0 x1 x5) ?_
  simp only [yY.l0]
  repeat' first
    | (with_reducible exact yY.l0_lim _ _ _)
    | exact Lim.const _
    | refine Lim.ite ?_ ?_
    | refine Lim.bind ?_ (fun _ => ?_)
theorem yY.fv_eq (l0 : List Int) (l1 : List Int) : yY.fv l0 l1 = if (l0.length : Int) = (l1.length : Int) then (yY.l0v l0 l1 0) else (some false) := by
  refine lim_now (fun k => rfl) (f := fun k => if (l0.length : Int) = (l1.length : Int) then (yY.l0 k l0 l1 0) else (some false)) ?_
  repeat' first
    | (with_reducible exact yY.l0_lim _ _ _)
    | exact Lim.const _
    | refine Lim.ite ?_ ?_
    | refine Lim.bind ?_ (fun _ => ?_)
open Go.Proofs.YtomgliinndfliaaW.PrintWords
theorem xA.l0_mono (x0 : List Int) (x1 : Int) (x5 : Int) : Mono (fun k => xA.l0 k x0 x1 x5) := (fun k => (xA.mono_l k) x0 x1 x5)
noncomputable def xA.l0v (x0 : List Int) (x1 : Int) (x5 : Int) : Option (Int) := lim (fun k => xA.l0 k x0 x1 x5)
theorem xA.l0_lim (x0 : List Int) (x1 : Int) (x5 : Int) : Lim (fun k => xA.l0 k x0 x1 x5) (xA.l0v x0 x1 x5) := lim_Lim (xA.l0_mono x0 x1 x5)
theorem xA.f_mono (l0 : List Int) (a1 : Int) : Mono (fun k => xA.f k l0 a1) := (fun k => xA.mono l0 a1 k)
noncomputable def xA.fv (l0 : List Int) (a1 : Int) : Option (Int) := lim (fun k => xA.f k l0 a1)
theorem xA.f_lim (l0 : List Int) (a1 : Int) : Lim (fun k => xA.f k l0 a1) (xA.fv l0 a1) := lim_Lim (xA.f_mono l0 a1)
theorem xA.l0v_eq (x0 : List Int) (x1 : Int) (x5 : Int) : xA.l0v x0 x1 x5 = if x5 < (x0.length : Int) then (if 0 ≤ x5 then (if (rd x0 x5) = x1 then (xA.l0v x0 (wrap64 (x1 + 1)) (wrap64 (x5 + 1))) else (some (-1))) else (none)) else (some x1) := by
  refine lim_step (xA.l0_mono x0 x1 x5) (fun k => rfl) (f := fun k => xA.l0 (k + 1) x0 x1 x5) ?_
  simp only [xA.l0]
  repeat' first
    | (with_reducible exact xA.l0_lim _ _ _)
    | exact Lim.const _
    | refine Lim.ite ?_ ?_
    | refine Lim.bind ?_ (fun _ => ?_)
theorem xA.fv_eq (l0 : List Int) (a1 : Int) : xA.fv l0 a1 = xA.l0v l0 a1 0 := by
  refine lim_now (fun k => rfl) (f := fun k => xA.l0 k l0 a1 0) ?_
  repeat' first
    | (with_reducible exact xA.l0_lim _ _ _)
    | exact Lim.const _
    | refine Lim.ite ?_ ?_
    | refine Lim.bind ?_ (fun _ => ?_)
open Go.Proofs.YtomgliinndfliaaW.PrintWords
theorem xB.l0_mono (x0 : List Int) (x1 : Int) (x5 : Int) : Mono (fun k => xB.l0 k x0 x1 x5) := (fun k => (xB.mono_l k) x0 x1 x5)
noncomputable def xB.l0v (x0 : List Int) (x1 : Int) (x5 : Int) : Option (Int × List Int) := lim (fun k => xB.l0 k x0 x1 x5)
theorem xB.l0_lim (x0 : List Int) (x1 : Int) (x5 : Int) : Lim (fun k => xB.l0 k x0 x1 x5) (xB.l0v x0 x1 x5) := lim_Lim (xB.l0_mono x0 x1 x5)
theorem xB.f_mono (l0 : List Int) (a1 : Int) : Mono (fun k => xB.f k l0 a1) := (fun k => xB.mono l0 a1 k)
noncomputable def xB.fv (l0 : List Int) (a1 : Int) : Option (Int × List Int) := lim (fun k => xB.f k l0 a1)
theorem xB.f_lim (l0 : List Int) (a1 : Int) : Lim (fun k => xB.f k l0 a1) (xB.fv l0 a1) := lim_Lim (xB.f_mono l0 a1)
theorem xB.l0v_eq (x0 : List Int) (x1 : Int) (x5 : Int) : xB.l0v x0 x1 x5 = if x5 < (x0.length : Int) then (if 0 ≤ x5 then (xB.l0v (x0.set (x5 : Int).toNat x1) (wrap64 (x1 + 1)) (wrap64 (x5 + 1))) else (none)) else (some (x1, x0)) := by
  refine lim_step (xB.l0_mono x0 x1 x5) (fun k => rfl) (f := fun k => xB.l0 (k + 1) x0 x1 x5) ?_
  simp only [xB.l0]
  repeat' first
    | (with_reducible exact xB.l0_lim _ _ _)
    | exact Lim.const _
    | refine Lim.ite ?_ ?_
    | refine Lim.bind ?_ (fun _ => ?_)
theorem xB.fv_eq (l0 : List Int) (a1 : Int) : xB.fv l0 a1 = xB.l0v l0 a1 0 := by
  refine lim_now (fun k => rfl) (f := fun k => xB.l0 k l0 a1 0) ?_
  repeat' first
    | (with_reducible exact xB.l0_lim _ _ _)
    | exact Lim.const _
    | refine Lim.ite ?_ ?_
    | refine Lim.bind ?_ (fun _ => ?_)
open Go.Proofs.YtomgliinndfliaaW.PrintWords
theorem yZ.l0_mono (x0 : List Int) (x3 : List Int) (x4 : Int) : Mono (fun k => yZ.l0 k x0 x3 x4) := (fun k => (yZ.mono_l k) x0 x3 x4)
noncomputable def yZ.l0v (x0 : List Int) (x3 : List Int) (x4 : Int) : Option (List Int) := lim (fun k => yZ.l0 k x0 x3 x4)
theorem yZ.l0_lim (x0 : List Int) (x3 : List Int) (x4 : Int) : Lim (fun k => yZ.l0 k x0 x3 x4) (yZ.l0v x0 x3 x4) := lim_Lim (yZ.l0_mono x0 x3 x4)
theorem yZ.f_mono (l0 : List Int) : Mono (fun k => yZ.f k l0) := (fun k => yZ.mono l0 k)
noncomputable def yZ.fv (l0 : List Int) : Option (List Int) := lim (fun k => yZ.f k l0)
theorem yZ.f_lim (l0 : List Int) : Lim (fun k => yZ.f k l0) (yZ.fv l0) := lim_Lim (yZ.f_mono l0)
theorem yZ.l0v_eq (x0 : List Int) (x3 : List Int) (x4 : Int) : yZ.l0v x0 x3 x4 = if x4 < (x0.length : Int) then (if 0 ≤ x4 then (if x4 < (x3.length : Int) then (yZ.l0v x0 (x3.set (x4 : Int).toNat (rd x0 x4)) (wrap64 (x4 + 1))) else (none)) else (none)) else (some x3) := by
  refine lim_step (yZ.l0_mono x0 x3 x4) (fun k => rfl) (f := fun k => yZ.l0 (k + 1) x0 x3 x4) ?_
  simp only [yZ.l0]
  repeat' first
    | (with_reducible exact yZ.l0_lim _ _ _)
    | exact Lim.const _
    | refine Lim.ite ?_ ?_
    | refine Lim.bind ?_ (fun _ => ?_)
theorem yZ.fv_eq (l0 : List Int) : yZ.fv l0 = if 0 ≤ (l0.length : Int) then (if ((l0.length : Int) : Int).toNat ≤ 35184372088832 then (yZ.l0v l0 (List.replicate ((l0.length : Int) : Int).toNat 0) 0) else (none)) else (none) := by
  refine lim_now (fun k => rfl) (f := fun k => if 0 ≤ (l0.length : Int) then (if ((l0.length : Int) : Int).toNat ≤ 35184372088832 then (yZ.l0 k l0 (List.replicate ((l0.length : Int) : Int).toNat 0) 0) else (none)) else (none)) ?_
  repeat' first
    | (with_reducible exact yZ.l0_lim _ _ _)
    | exact Lim.const _
    | refine Lim.ite ?_ ?_
    | refine Lim.bind ?_ (fun _ => ?_)
open Go.Proofs.YtomgliinndfliaaW.PrintWords
theorem yV.l0_mono (x0 : List Int) (x1 : Int) (x2 : Int) (x3 : Int) (x9 : Int) : Mono (fun k => yV.l0 k x0 x1 x2 x3 x9) := (fun k => (yV.mono_l k) x0 x1 x2 x3 x9)
noncomputable def yV.l0v (x0 : List Int) (x1 : Int) (x2 : Int) (x3 : Int) (x9 : Int) : Option (Bool) := lim (fun k => yV.l0 k x0 x1 x2 x3 x9)
theorem yV.l0_lim (x0 : List Int) (x1 : Int) (x2 : Int) (x3 : Int) (x9 : Int) : Lim (fun k => yV.l0 k x0 x1 x2 x3 x9) (yV.l0v x0 x1 x2 x3 x9) := lim_Lim (yV.l0_mono x0 x1 x2 x3 x9)
theorem yV.f_mono (l0 : List Int) (a1 : Int) (a2 : Int) (a3 : Int) : Mono (fun k => yV.f k l0 a1 a2 a3) := (fun k => yV.mono l0 a1 a2 a3 k)
noncomputable def yV.fv (l0 : List Int) (a1 : Int) (a2 : Int) (a3 : Int) : Option (Bool) := lim (fun k => yV.f k l0 a1 a2 a3)
theorem yV.f_lim (l0 : List Int) (a1 : Int) (a2 : Int) (a3 : Int) : Lim (fun k => yV.f k l0 a1 a2 a3) (yV.fv l0 a1 a2 a3) := lim_Lim (yV.f_mono l0 a1 a2 a3)
theorem yV.l0v_eq (x0 : List Int) (x1 : Int) (x2 : Int) (x3 : Int) (x9 : Int) : yV.l0v x0 x1 x2 x3 x9 = if x9 < (x0.length : Int) then (if 0 ≤ x9 then ((xG.f (rd x0 x9) x2 x3).bind fun t104 => (if t104 = true then (yV.l0v x0 x1 x2 x3 (wrap64 (x9 + 1))) else (some false))) else (none)) else (some (decide ((x0.length : Int) ≤ x1))) := by
  refine lim_step (yV.l0_mono x0 x1 x2 x3 x9) (fun k => rfl) (f := fun k => yV.l0 (k + 1) x0 x1 x2 x3 x9) ?_
  simp only [yV.l0]
  repeat' first
    | (with_reducible exact yV.l0_lim _ _ _ _ _)
    | exact Lim.const _
    | refine Lim.ite ?_ ?_
    | refine Lim.bind ?_ (fun _ => ?_)
theorem yV.fv_eq (l0 : List Int) (a1 : Int) (a2 : Int) (a3 : Int) : yV.fv l0 a1 a2 a3 = yV.l0v l0 a1 a2 a3 0 := by
  refine lim_now (fun k => rfl) (f := fun k => yV.l0 k l0 a1 a2 a3 0) ?_
  repeat' first
    | (with_reducible exact yV.l0_lim _ _ _ _ _)
    | exact Lim.const _
    | refine Lim.ite ?_ ?_
    | refine Lim.bind ?_ (fun _ => ?_)
open Go.Proofs.YtomgliinndfliaaW.PrintWords
theorem xJ.f_mono (a0_0 : Int) (a0_1 : Int) (a0_2 : Int) (a0_3 : Int) (l0_4 : List Int) (a1_0 : Int) (a1_1 : Int) (a1_2 : Int) (a1_3 : Int) (l1_4 : List Int) : Mono (fun k => xJ.f k a0_0 a0_1 a0_2 a0_3 l0_4 a1_0 a1_1 a1_2 a1_3 l1_4) := (fun k => xJ.mono a0_0 a0_1 a0_2 a0_3 l0_4 a1_0 a1_1 a1_2 a1_3 l1_4 k)
noncomputable def xJ.fv (a0_0 : Int) (a0_1 : Int) (a0_2 : Int) (a0_3 : Int) (l0_4 : List Int) (a1_0 : Int) (a1_1 : Int) (a1_2 : Int) (a1_3 : Int) (l1_4 : List Int) : Option (Bool) := lim (fun k => xJ.f k a0_0 a0_1 a0_2 a0_3 l0_4 a1_0 a1_1 a1_2 a1_3 l1_4)
theorem xJ.f_lim (a0_0 : Int) (a0_1 : Int) (a0_2 : Int) (a0_3 : Int) (l0_4 : List Int) (a1_0 : Int) (a1_1 : Int) (a1_2 : Int) (a1_3 : Int) (l1_4 : List Int) : Lim (fun k => xJ.f k a0_0 a0_1 a0_2 a0_3 l0_4 a1_0 a1_1 a1_2 a1_3 l1_4) (xJ.fv a0_0 a0_1 a0_2 a0_3 l0_4 a1_0 a1_1 a1_2 a1_3 l1_4) := lim_Lim (xJ.f_mono a0_0 a0_1 a0_2 a0_3 l0_4 a1_0 a1_1 a1_2 a1_3 l1_4)
theorem xJ.fv_eq (a0_0 : Int) (a0_1 : Int) (a0_2 : Int) (a0_3 : Int) (l0_4 : List Int) (a1_0 : Int) (a1_1 : Int) (a1_2 : Int) (a1_3 : Int) (l1_4 : List Int) : xJ.fv a0_0 a0_1 a0_2 a0_3 l0_4 a1_0 a1_1 a1_2 a1_3 l1_4 = if a0_0 = a1_0 then ((wC.f a0_1 a0_2 a0_3 a1_1 a1_2 a1_3).bind fun t271 => (if t271 = true then ((yY.fv l0_4 l1_4).bind fun t272 => (if t272 = true then (some true) else (some false))) else (some false))) else (some false) := by
  refine lim_now (fun k => rfl) (f := fun k => if a0_0 = a1_0 then ((wC.f a0_1 a0_2 a0_3 a1_1 a1_2 a1_3).bind fun t271 => (if t271 = true then ((yY.f k l0_4 l1_4).bind fun t272 => (if t272 = true then (some true) else (some false))) else (some false))) else (some false)) ?_
  repeat' first
    | (with_reducible exact yY.f_lim _ _)
    | exact Lim.const _
    | refine Lim.ite ?_ ?_
    | refine Lim.bind ?_ (fun _ => ?_)
open Go.Proofs.YtomgliinndfliaaW.PrintWords
theorem xF.f_mono (a0_0 : Int) (a0_1 : Int) (a0_2 : Int) (a0_3 : Int) (l0_4 : List Int) : Mono (fun k => xF.f k a0_0 a0_1 a0_2 a0_3 l0_4) := (fun k => xF.mono a0_0 a0_1 a0_2 a0_3 l0_4 k)
noncomputable def xF.fv (a0_0 : Int) (a0_1 : Int) (a0_2 : Int) (a0_3 : Int) (l0_4 : List Int) : Option (Int × Int × Int × Int × List Int) := lim (fun k => xF.f k a0_0 a0_1 a0_2 a0_3 l0_4)
theorem xF.f_lim (a0_0 : Int) (a0_1 : Int) (a0_2 : Int) (a0_3 : Int) (l0_4 : List Int) : Lim (fun k => xF.f k a0_0 a0_1 a0_2 a0_3 l0_4) (xF.fv a0_0 a0_1 a0_2 a0_3 l0_4) := lim_Lim (xF.f_mono a0_0 a0_1 a0_2 a0_3 l0_4)
theorem xF.fv_eq (a0_0 : Int) (a0_1 : Int) (a0_2 : Int) (a0_3 : Int) (l0_4 : List Int) : xF.fv a0_0 a0_1 a0_2 a0_3 l0_4 = (wQ.f a0_1 a0_2 a0_3).bind fun bt192 => ((yZ.fv l0_4).bind fun t195 => (some (a0_0, bt192.1, bt192.2.1, bt192.2.2, t195))) := by
  refine lim_now (fun k => rfl) (f := fun k => (wQ.f a0_1 a0_2 a0_3).bind fun bt192 => ((yZ.f k l0_4).bind fun t195 => (some (a0_0, bt192.1, bt192.2.1, bt192.2.2, t195)))) ?_
  repeat' first
    | (with_reducible exact yZ.f_lim _)
    | exact Lim.const _
    | refine Lim.ite ?_ ?_
    | refine Lim.bind ?_ (fun _ => ?_)
open Go.Proofs.YtomgliinndfliaaW.PrintWords
theorem xL.f_mono (a0_0 : Int) (a0_1 : Int) (a0_2 : Int) (a0_3 : Int) (l0_4 : List Int) : Mono (fun k => xL.f k a0_0 a0_1 a0_2 a0_3 l0_4) := (fun k => xL.mono a0_0 a0_1 a0_2 a0_3 l0_4 k)
noncomputable def xL.fv (a0_0 : Int) (a0_1 : Int) (a0_2 : Int) (a0_3 : Int) (l0_4 : List Int) : Option (Bool) := lim (fun k => xL.f k a0_0 a0_1 a0_2 a0_3 l0_4)
theorem xL.f_lim (a0_0 : Int) (a0_1 : Int) (a0_2 : Int) (a0_3 : Int) (l0_4 : List Int) : Lim (fun k => xL.f k a0_0 a0_1 a0_2 a0_3 l0_4) (xL.fv a0_0 a0_1 a0_2 a0_3 l0_4) := lim_Lim (xL.f_mono a0_0 a0_1 a0_2 a0_3 l0_4)
theorem xL.fv_eq (a0_0 : Int) (a0_1 : Int) (a0_2 : Int) (a0_3 : Int) (l0_4 : List Int) : xL.fv a0_0 a0_1 a0_2 a0_3 l0_4 = (wI.f a0_0 a0_1 a0_2 a0_3).bind fun t113 => (if t113 = 0 then (if (l0_4.length : Int) = (wrap64 (a0_1 * a0_3)) then ((yV.fv l0_4 64 0 9).bind fun t114 => (some t114)) else (some false)) else (some false)) := by
  refine lim_now (fun k => rfl) (f := fun k => (wI.f a0_0 a0_1 a0_2 a0_3).bind fun t113 => (if t113 = 0 then (if (l0_4.length : Int) = (wrap64 (a0_1 * a0_3)) then ((yV.f k l0_4 64 0 9).bind fun t114 => (some t114)) else (some false)) else (some false))) ?_
  repeat' first
    | (with_reducible exact yV.f_lim _ _ _ _)
    | exact Lim.const _
    | refine Lim.ite ?_ ?_
    | refine Lim.bind ?_ (fun _ => ?_)
open Go.Proofs.YtomgliinndfliaaW.PrintWords
theorem xR.f_mono (a0_0 : Int) (a0_1 : Int) (a0_2 : Int) (a0_3 : Int) (l0_4 : List Int) (a1 : Int) : Mono (fun k => xR.f k a0_0 a0_1 a0_2 a0_3 l0_4 a1) := (fun k => xR.mono a0_0 a0_1 a0_2 a0_3 l0_4 a1 k)
noncomputable def xR.fv (a0_0 : Int) (a0_1 : Int) (a0_2 : Int) (a0_3 : Int) (l0_4 : List Int) (a1 : Int) : Option (Int) := lim (fun k => xR.f k a0_0 a0_1 a0_2 a0_3 l0_4 a1)
theorem xR.f_lim (a0_0 : Int) (a0_1 : Int) (a0_2 : Int) (a0_3 : Int) (l0_4 : List Int) (a1 : Int) : Lim (fun k => xR.f k a0_0 a0_1 a0_2 a0_3 l0_4 a1) (xR.fv a0_0 a0_1 a0_2 a0_3 l0_4 a1) := lim_Lim (xR.f_mono a0_0 a0_1 a0_2 a0_3 l0_4 a1)
theorem xR.fv_eq (a0_0 : Int) (a0_1 : Int) (a0_2 : Int) (a0_3 : Int) (l0_4 : List Int) (a1 : Int) : xR.fv a0_0 a0_1 a0_2 a0_3 l0_4 a1 = (xA.fv l0_4 a1).bind fun t279 => (if t279 < 0 then (some (-1)) else (some t279)) := by
  refine lim_now (fun k => rfl) (f := fun k => (xA.f k l0_4 a1).bind fun t279 => (if t279 < 0 then (some (-1)) else (some t279))) ?_
  repeat' first
    | (with_reducible exact xA.f_lim _ _)
    | exact Lim.const _
    | refine Lim.ite ?_ ?_
    | refine Lim.bind ?_ (fun _ => ?_)
open Go.Proofs.YtomgliinndfliaaW.PrintWords
theorem xS.f_mono (a0_0 : Int) (a0_1 : Int) (a0_2 : Int) (a0_3 : Int) (l0_4 : List Int) (a1 : Int) : Mono (fun k => xS.f k a0_0 a0_1 a0_2 a0_3 l0_4 a1) := (fun k => xS.mono a0_0 a0_1 a0_2 a0_3 l0_4 a1 k)
noncomputable def xS.fv (a0_0 : Int) (a0_1 : Int) (a0_2 : Int) (a0_3 : Int) (l0_4 : List Int) (a1 : Int) : Option (Int × List Int) := lim (fun k => xS.f k a0_0 a0_1 a0_2 a0_3 l0_4 a1)
theorem xS.f_lim (a0_0 : Int) (a0_1 : Int) (a0_2 : Int) (a0_3 : Int) (l0_4 : List Int) (a1 : Int) : Lim (fun k => xS.f k a0_0 a0_1 a0_2 a0_3 l0_4 a1) (xS.fv a0_0 a0_1 a0_2 a0_3 l0_4 a1) := lim_Lim (xS.f_mono a0_0 a0_1 a0_2 a0_3 l0_4 a1)
theorem xS.fv_eq (a0_0 : Int) (a0_1 : Int) (a0_2 : Int) (a0_3 : Int) (l0_4 : List Int) (a1 : Int) : xS.fv a0_0 a0_1 a0_2 a0_3 l0_4 a1 = (xB.fv l0_4 a1).bind fun bt275 => (some (bt275.1, bt275.2)) := by
  refine lim_now (fun k => rfl) (f := fun k => (xB.f k l0_4 a1).bind fun bt275 => (some (bt275.1, bt275.2))) ?_
  repeat' first
    | (with_reducible exact xB.f_lim _ _)
    | exact Lim.const _
    | refine Lim.ite ?_ ?_
    | refine Lim.bind ?_ (fun _ => ?_)
open Go.Proofs.YtomgliinndfliaaW.PrintWords
theorem yF.l0_mono (x3 : List (S38)) (x8 : Int) (x9 : Int) (x211000 : Int) (x211001 : Int) (x211002 : Int) : Mono (fun k => yF.l0 k x3 x8 x9 x211000 x211001 x211002) := (fun k => (yF.mono_l k).1 x3 x8 x9 x211000 x211001 x211002)
noncomputable def yF.l0v (x3 : List (S38)) (x8 : Int) (x9 : Int) (x211000 : Int) (x211001 : Int) (x211002 : Int) : Option ((List (S38))) := lim (fun k => yF.l0 k x3 x8 x9 x211000 x211001 x211002)
theorem yF.l0_lim (x3 : List (S38)) (x8 : Int) (x9 : Int) (x211000 : Int) (x211001 : Int) (x211002 : Int) : Lim (fun k => yF.l0 k x3 x8 x9 x211000 x211001 x211002) (yF.l0v x3 x8 x9 x211000 x211001 x211002) := lim_Lim (yF.l0_mono x3 x8 x9 x211000 x211001 x211002)
theorem yF.l1_mono (x3 : List (S38)) (x4 : Int) (x8 : Int) (x9 : Int) (x13 : Int) (x14 : Int) (x211000 : Int) (x211001 : Int) (x211002 : Int) : Mono (fun k => yF.l1 k x3 x4 x8 x9 x13 x14 x211000 x211001 x211002) := (fun k => (yF.mono_l k).2 x3 x4 x8 x9 x13 x14 x211000 x211001 x211002)
noncomputable def yF.l1v (x3 : List (S38)) (x4 : Int) (x8 : Int) (x9 : Int) (x13 : Int) (x14 : Int) (x211000 : Int) (x211001 : Int) (x211002 : Int) : Option ((List (S38))) := lim (fun k => yF.l1 k x3 x4 x8 x9 x13 x14 x211000 x211001 x211002)
theorem yF.l1_lim (x3 : List (S38)) (x4 : Int) (x8 : Int) (x9 : Int) (x13 : Int) (x14 : Int) (x211000 : Int) (x211001 : Int) (x211002 : Int) : Lim (fun k => yF.l1 k x3 x4 x8 x9 x13 x14 x211000 x211001 x211002) (yF.l1v x3 x4 x8 x9 x13 x14 x211000 x211001 x211002) := lim_Lim (yF.l1_mono x3 x4 x8 x9 x13 x14 x211000 x211001 x211002)
theorem yF.f_mono (a0_0 : Int) (a0_1 : Int) (a0_2 : Int) : Mono (fun k => yF.f k a0_0 a0_1 a0_2) := (fun k => yF.mono a0_0 a0_1 a0_2 k)
noncomputable def yF.fv (a0_0 : Int) (a0_1 : Int) (a0_2 : Int) : Option ((List (S38))) := lim (fun k => yF.f k a0_0 a0_1 a0_2)
theorem yF.f_lim (a0_0 : Int) (a0_1 : Int) (a0_2 : Int) : Lim (fun k => yF.f k a0_0 a0_1 a0_2) (yF.fv a0_0 a0_1 a0_2) := lim_Lim (yF.f_mono a0_0 a0_1 a0_2)
theorem yF.l0v_eq (x3 : List (S38)) (x8 : Int) (x9 : Int) (x211000 : Int) (x211001 : Int) (x211002 : Int) : yF.l0v x3 x8 x9 x211000 x211001 x211002 = if x9 < x8 then (yF.l1v x3 x9 x8 x9 x211002 0 x211000 x211001 x211002) else (some x3) := by
  refine lim_step (yF.l0_mono x3 x8 x9 x211000 x211001 x211002) (fun k => rfl) (f := fun k => yF.l0 (k + 1) x3 x8 x9 x211000 x211001 x211002) ?_
  simp only [yF.l0]
  repeat' first
    | (with_reducible exact yF.l1_lim _ _ _ _ _ _ _ _ _)
    | exact Lim.const _
    | refine Lim.ite ?_ ?_
    | refine Lim.bind ?_ (fun _ => ?_)
theorem yF.l1v_eq (x3 : List (S38)) (x4 : Int) (x8 : Int) (x9 : Int) (x13 : Int) (x14 : Int) (x211000 : Int) (x211001 : Int) (x211002 : Int) : yF.l1v x3 x4 x8 x9 x13 x14 x211000 x211001 x211002 = if x14 < x13 then (if x3.length < 8796093022208 then (yF.l1v (x3 ++ [(⟨x4, x14⟩ : S38)]) x4 x8 x9 x13 (wrap64 (x14 + 1)) x211000 x211001 x211002) else (none)) else (yF.l0v x3 x8 (wrap64 (x9 + 1)) x211000 x211001 x211002) := by
  refine lim_step (yF.l1_mono x3 x4 x8 x9 x13 x14 x211000 x211001 x211002) (fun k => rfl) (f := fun k => yF.l1 (k + 1) x3 x4 x8 x9 x13 x14 x211000 x211001 x211002) ?_
  simp only [yF.l1]
  repeat' first
    | (with_reducible exact yF.l0_lim _ _ _ _ _ _)
    | (with_reducible exact yF.l1_lim _ _ _ _ _ _ _ _ _)
    | exact Lim.const _
    | refine Lim.ite ?_ ?_
    | refine Lim.bind ?_ (fun _ => ?_)
theorem yF.fv_eq (a0_0 : Int) (a0_1 : Int) (a0_2 : Int) : yF.fv a0_0 a0_1 a0_2 = yF.l0v (([] : List (S38))) a0_0 0 a0_0 a0_1 a0_2 := by
  refine lim_now (fun k => rfl) (f := fun k => yF.l0 k (([] : List (S38))) a0_0 0 a0_0 a0_1 a0_2) ?_
  repeat' first
    | (with_reducible exact yF.l0_lim _ _ _ _ _ _)
    | exact Lim.const _
    | refine Lim.ite ?_ ?_
    | refine Lim.bind ?_ (fun _ => ?_)
open Go.Proofs.YtomgliinndfliaaW.PrintWords
theorem yM.l0_mono (x3 : List (S38)) (x4 : Int) (x127000 : Int) (x127001 : Int) (x127002 : Int) : Mono (fun k => yM.l0 k x3 x4 x127000 x127001 x127002) := (fun k => (yM.mono_l k).1 x3 x4 x127000 x127001 x127002)
noncomputable def yM.l0v (x3 : List (S38)) (x4 : Int) (x127000 : Int) (x127001 : Int) (x127002 : Int) : Option ((List (S38))) := lim (fun k => yM.l0 k x3 x4 x127000 x127001 x127002)
theorem yM.l0_lim (x3 : List (S38)) (x4 : Int) (x127000 : Int) (x127001 : Int) (x127002 : Int) : Lim (fun k => yM.l0 k x3 x4 x127000 x127001 x127002) (yM.l0v x3 x4 x127000 x127001 x127002) := lim_Lim (yM.l0_mono x3 x4 x127000 x127001 x127002)
theorem yM.l1_mono (x3 : List (S38)) (x4 : Int) (x5 : Int) (x127000 : Int) (x127001 : Int) (x127002 : Int) : Mono (fun k => yM.l1 k x3 x4 x5 x127000 x127001 x127002) := (fun k => (yM.mono_l k).2 x3 x4 x5 x127000 x127001 x127002)
noncomputable def yM.l1v (x3 : List (S38)) (x4 : Int) (x5 : Int) (x127000 : Int) (x127001 : Int) (x127002 : Int) : Option ((List (S38))) := lim (fun k => yM.l1 k x3 x4 x5 x127000 x127001 x127002)
theorem yM.l1_lim (x3 : List (S38)) (x4 : Int) (x5 : Int) (x127000 : Int) (x127001 : Int) (x127002 : Int) : Lim (fun k => yM.l1 k x3 x4 x5 x127000 x127001 x127002) (yM.l1v x3 x4 x5 x127000 x127001 x127002) := lim_Lim (yM.l1_mono x3 x4 x5 x127000 x127001 x127002)
theorem yM.f_mono (a0_0 : Int) (a0_1 : Int) (a0_2 : Int) : Mono (fun k => yM.f k a0_0 a0_1 a0_2) := (fun k => yM.mono a0_0 a0_1 a0_2 k)
noncomputable def yM.fv (a0_0 : Int) (a0_1 : Int) (a0_2 : Int) : Option ((List (S38))) := lim (fun k => yM.f k a0_0 a0_1 a0_2)
theorem yM.f_lim (a0_0 : Int) (a0_1 : Int) (a0_2 : Int) : Lim (fun k => yM.f k a0_0 a0_1 a0_2) (yM.fv a0_0 a0_1 a0_2) := lim_Lim (yM.f_mono a0_0 a0_1 a0_2)
theorem yM.l0v_eq (x3 : List (S38)) (x4 : Int) (x127000 : Int) (x127001 : Int) (x127002 : Int) : yM.l0v x3 x4 x127000 x127001 x127002 = if x4 < x127000 then (yM.l1v x3 x4 0 x127000 x127001 x127002) else (some x3) := by
  refine lim_step (yM.l0_mono x3 x4 x127000 x127001 x127002) (fun k => rfl) (f := fun k => yM.l0 (k + 1) x3 x4 x127000 x127001 x127002) ?_
  simp only [yM.l0]
  repeat' first
    | (with_reducible exact yM.l1_lim _ _ _ _ _ _)
    | exact Lim.const _
    | refine Lim.ite ?_ ?_
    | refine Lim.bind ?_ (fun _ => ?_)
theorem yM.l1v_eq (x3 : List (S38)) (x4 : Int) (x5 : Int) (x127000 : Int) (x127001 : Int) (x127002 : Int) : yM.l1v x3 x4 x5 x127000 x127001 x127002 = if x5 < x127002 then (if x3.length < 8796093022208 then (yM.l1v (x3 ++ [(⟨x4, x5⟩ : S38)]) x4 (wrap64 (x5 + 1)) x127000 x127001 x127002) else (none)) else (yM.l0v x3 (wrap64 (x4 + 1)) x127000 x127001 x127002) := by
  refine lim_step (yM.l1_mono x3 x4 x5 x127000 x127001 x127002) (fun k => rfl) (f := fun k => yM.l1 (k + 1) x3 x4 x5 x127000 x127001 x127002) ?_
  simp only [yM.l1]
  repeat' first
    | (with_reducible exact yM.l0_lim _ _ _ _ _)
    | (with_reducible exact yM.l1_lim _ _ _ _ _ _)
    | exact Lim.const _
    | refine Lim.ite ?_ ?_
    | refine Lim.bind ?_ (fun _ => ?_)
theorem yM.fv_eq (a0_0 : Int) (a0_1 : Int) (a0_2 : Int) : yM.fv a0_0 a0_1 a0_2 = yM.l0v (([] : List (S38))) 0 a0_0 a0_1 a0_2 := by
  refine lim_now (fun k => rfl) (f := fun k => yM.l0 k (([] : List (S38))) 0 a0_0 a0_1 a0_2) ?_
  repeat' first
    | (with_reducible exact yM.l0_lim _ _ _ _ _)
    | exact Lim.const _
    | refine Lim.ite ?_ ?_
    | refine Lim.bind ?_ (fun _ => ?_)
open Go.Proofs.YtomgliinndfliaaW.PrintWords
theorem xI.l0_mono (x0 : Int) (x1 : Int) : Mono (fun k => xI.l0 k x0 x1) := (fun k => (xI.mono_l k) x0 x1)
noncomputable def xI.l0v (x0 : Int) (x1 : Int) : Option (Int) := lim (fun k => xI.l0 k x0 x1)
theorem xI.l0_lim (x0 : Int) (x1 : Int) : Lim (fun k => xI.l0 k x0 x1) (xI.l0v x0 x1) := lim_Lim (xI.l0_mono x0 x1)
theorem xI.f_mono (a0 : Int) (a1 : Int) : Mono (fun k => xI.f k a0 a1) := (fun k => xI.mono a0 a1 k)
noncomputable def xI.fv (a0 : Int) (a1 : Int) : Option (Int) := lim (fun k => xI.f k a0 a1)
theorem xI.f_lim (a0 : Int) (a1 : Int) : Lim (fun k => xI.f k a0 a1) (xI.fv a0 a1) := lim_Lim (xI.f_mono a0 a1)
theorem xI.l0v_eq (x0 : Int) (x1 : Int) : xI.l0v x0 x1 = if x1 = 0 then (some (mx x0 (wrap64 (-x0)))) else (xI.l0v x1 (Int.tmod x0 x1)) := by
  refine lim_step (xI.l0_mono x0 x1) (fun k => rfl) (f := fun k => xI.l0 (k + 1) x0 x1) ?_
  simp only [xI.l0]
  repeat' first
    | (with_reducible exact xI.l0_lim _ _)
    | exact Lim.const _
    | refine Lim.ite ?_ ?_
    | refine Lim.bind ?_ (fun _ => ?_)
theorem xI.fv_eq (a0 : Int) (a1 : Int) : xI.fv a0 a1 = xI.l0v a0 a1 := by
  refine lim_now (fun k => rfl) (f := fun k => xI.l0 k a0 a1) ?_
  repeat' first
    | (with_reducible exact xI.l0_lim _ _)
    | exact Lim.const _
    | refine Lim.ite ?_ ?_
    | refine Lim.bind ?_ (fun _ => ?_)
open Go.Proofs.YtomgliinndfliaaW.PrintWords
theorem yI.l0_mono (x3 : Int) (x9 : List (S38)) (x10 : Int) (x11 : Int) (x453000 : Int) (x453001 : Int) : Mono (fun k => yI.l0 k x3 x9 x10 x11 x453000 x453001) := (fun k => (yI.mono_l k).1 x3 x9 x10 x11 x453000 x453001)
noncomputable def yI.l0v (x3 : Int) (x9 : List (S38)) (x10 : Int) (x11 : Int) (x453000 : Int) (x453001 : Int) : Option (Int × Int × Int) := lim (fun k => yI.l0 k x3 x9 x10 x11 x453000 x453001)
theorem yI.l0_lim (x3 : Int) (x9 : List (S38)) (x10 : Int) (x11 : Int) (x453000 : Int) (x453001 : Int) : Lim (fun k => yI.l0 k x3 x9 x10 x11 x453000 x453001) (yI.l0v x3 x9 x10 x11 x453000 x453001) := lim_Lim (yI.l0_mono x3 x9 x10 x11 x453000 x453001)
theorem yI.l1_mono (x3 : Int) (x9 : List (S38)) (x10 : Int) (x11 : Int) (x453000 : Int) (x453001 : Int) (x455000 : Int) (x455001 : Int) : Mono (fun k => yI.l1 k x3 x9 x10 x11 x453000 x453001 x455000 x455001) := (fun k => (yI.mono_l k).2 x3 x9 x10 x11 x453000 x453001 x455000 x455001)
noncomputable def yI.l1v (x3 : Int) (x9 : List (S38)) (x10 : Int) (x11 : Int) (x453000 : Int) (x453001 : Int) (x455000 : Int) (x455001 : Int) : Option (Int × Int × Int) := lim (fun k => yI.l1 k x3 x9 x10 x11 x453000 x453001 x455000 x455001)
theorem yI.l1_lim (x3 : Int) (x9 : List (S38)) (x10 : Int) (x11 : Int) (x453000 : Int) (x453001 : Int) (x455000 : Int) (x455001 : Int) : Lim (fun k => yI.l1 k x3 x9 x10 x11 x453000 x453001 x455000 x455001) (yI.l1v x3 x9 x10 x11 x453000 x453001 x455000 x455001) := lim_Lim (yI.l1_mono x3 x9 x10 x11 x453000 x453001 x455000 x455001)
theorem yI.f_mono (l0 : List (S38)) : Mono (fun k => yI.f k l0) := (fun k => yI.mono l0 k)
noncomputable def yI.fv (l0 : List (S38)) : Option (Int × Int × Int) := lim (fun k => yI.f k l0)
theorem yI.f_lim (l0 : List (S38)) : Lim (fun k => yI.f k l0) (yI.fv l0) := lim_Lim (yI.f_mono l0)
theorem yI.l0v_eq (x3 : Int) (x9 : List (S38)) (x10 : Int) (x11 : Int) (x453000 : Int) (x453001 : Int) : yI.l0v x3 x9 x10 x11 x453000 x453001 = if x11 < x10 then (if 0 ≤ x11 then (if x11 < (x9.length : Int) then (yI.l1v x3 x9 x10 x11 x453000 x453001 ((rd_T38 x9 x11).f0) ((rd_T38 x9 x11).f1)) else (none)) else (none)) else (if x453001 < 0 then ((wF.f x453000 x453001 (-1)).bind fun bt460 => ((wE.f bt460.1 x3).bind fun t462 => (some (x3, t462, bt460.2)))) else ((wE.f x453000 x3).bind fun t463 => (some (x3, t463, x453001)))) := by
  refine lim_step (yI.l0_mono x3 x9 x10 x11 x453000 x453001) (fun k => rfl) (f := fun k => yI.l0 (k + 1) x3 x9 x10 x11 x453000 x453001) ?_
  simp only [yI.l0]
  repeat' first
    | (with_reducible exact yI.l1_lim _ _ _ _ _ _ _ _)
    | exact Lim.const _
    | refine Lim.ite ?_ ?_
    | refine Lim.bind ?_ (fun _ => ?_)
theorem yI.l1v_eq (x3 : Int) (x9 : List (S38)) (x10 : Int) (x11 : Int) (x453000 : Int) (x453001 : Int) (x455000 : Int) (x455001 : Int) : yI.l1v x3 x9 x10 x11 x453000 x453001 x455000 x455001 = if x455001 = 0 then ((xI.fv x3 x455000).bind fun t455 => (yI.l0v t455 x9 x10 (wrap64 (x11 + 1)) x453000 x453001)) else ((wF.f x455000 x455001 (wrap64 (-(wrap64 (Int.tdiv x453001 x455001))))).bind fun bt456 => ((xW.f x453000 x453001 bt456.1 bt456.2).bind fun bt458 => (yI.l1v x3 x9 x10 x11 x455000 x455001 bt458.1 bt458.2))) := by
  refine lim_step (yI.l1_mono x3 x9 x10 x11 x453000 x453001 x455000 x455001) (fun k => rfl) (f := fun k => yI.l1 (k + 1) x3 x9 x10 x11 x453000 x453001 x455000 x455001) ?_
  simp only [yI.l1]
  repeat' first
    | (with_reducible exact xI.f_lim _ _)
    | (with_reducible exact yI.l0_lim _ _ _ _ _ _)
    | (with_reducible exact yI.l1_lim _ _ _ _ _ _ _ _)
    | exact Lim.const _
    | refine Lim.ite ?_ ?_
    | refine Lim.bind ?_ (fun _ => ?_)
theorem yI.fv_eq (l0 : List (S38)) : yI.fv l0 = yI.l0v 0 l0 (l0.length : Int) 0 0 0 := by
  refine lim_now (fun k => rfl) (f := fun k => yI.l0 k 0 l0 (l0.length : Int) 0 0 0) ?_
  repeat' first
    | (with_reducible exact yI.l0_lim _ _ _ _ _ _)
    | exact Lim.const _
    | refine Lim.ite ?_ ?_
    | refine Lim.bind ?_ (fun _ => ?_)
open Go.Proofs.YtomgliinndfliaaW.PrintWords
theorem xD.f_mono (a0 : Int) (a1 : Int) : Mono (fun k => xD.f k a0 a1) := (fun k => (xD.mono_l k) a0 a1)
noncomputable def xD.fv (a0 : Int) (a1 : Int) : Option (Int) := lim (fun k => xD.f k a0 a1)
theorem xD.f_lim (a0 : Int) (a1 : Int) : Lim (fun k => xD.f k a0 a1) (xD.fv a0 a1) := lim_Lim (xD.f_mono a0 a1)
theorem xD.fv_eq (a0 : Int) (a1 : Int) : xD.fv a0 a1 = if a1 = 0 then (some (mx a0 (wrap64 (-a0)))) else ((xD.fv a1 (Int.tmod a0 a1)).bind fun t357 => (some t357)) := by
  refine lim_step (xD.f_mono a0 a1) (fun k => rfl) (f := fun k => xD.f (k + 1) a0 a1) ?_
  simp only [xD.f]
  repeat' first
    | (with_reducible exact xD.f_lim _ _)
    | exact Lim.const _
    | refine Lim.ite ?_ ?_
    | refine Lim.bind ?_ (fun _ => ?_)
open Go.Proofs.YtomgliinndfliaaW.PrintWords
theorem yJ.l0_mono (x0 : List (S38)) (x4 : Int) (x5 : Int) (x362000 : Int) (x362001 : Int) : Mono (fun k => yJ.l0 k x0 x4 x5 x362000 x362001) := (fun k => (yJ.mono_l k).1 x0 x4 x5 x362000 x362001)
noncomputable def yJ.l0v (x0 : List (S38)) (x4 : Int) (x5 : Int) (x362000 : Int) (x362001 : Int) : Option (Int × Int × Int) := lim (fun k => yJ.l0 k x0 x4 x5 x362000 x362001)
theorem yJ.l0_lim (x0 : List (S38)) (x4 : Int) (x5 : Int) (x362000 : Int) (x362001 : Int) : Lim (fun k => yJ.l0 k x0 x4 x5 x362000 x362001) (yJ.l0v x0 x4 x5 x362000 x362001) := lim_Lim (yJ.l0_mono x0 x4 x5 x362000 x362001)
theorem yJ.l1_mono (x0 : List (S38)) (x4 : Int) (x5 : Int) (x362000 : Int) (x362001 : Int) (x364000 : Int) (x364001 : Int) : Mono (fun k => yJ.l1 k x0 x4 x5 x362000 x362001 x364000 x364001) := (fun k => (yJ.mono_l k).2 x0 x4 x5 x362000 x362001 x364000 x364001)
noncomputable def yJ.l1v (x0 : List (S38)) (x4 : Int) (x5 : Int) (x362000 : Int) (x362001 : Int) (x364000 : Int) (x364001 : Int) : Option (Int × Int × Int) := lim (fun k => yJ.l1 k x0 x4 x5 x362000 x362001 x364000 x364001)
theorem yJ.l1_lim (x0 : List (S38)) (x4 : Int) (x5 : Int) (x362000 : Int) (x362001 : Int) (x364000 : Int) (x364001 : Int) : Lim (fun k => yJ.l1 k x0 x4 x5 x362000 x362001 x364000 x364001) (yJ.l1v x0 x4 x5 x362000 x362001 x364000 x364001) := lim_Lim (yJ.l1_mono x0 x4 x5 x362000 x362001 x364000 x364001)
theorem yJ.f_mono (l0 : List (S38)) : Mono (fun k => yJ.f k l0) := (fun k => yJ.mono l0 k)
noncomputable def yJ.fv (l0 : List (S38)) : Option (Int × Int × Int) := lim (fun k => yJ.f k l0)
theorem yJ.f_lim (l0 : List (S38)) : Lim (fun k => yJ.f k l0) (yJ.fv l0) := lim_Lim (yJ.f_mono l0)
theorem yJ.l0v_eq (x0 : List (S38)) (x4 : Int) (x5 : Int) (x362000 : Int) (x362001 : Int) : yJ.l0v x0 x4 x5 x362000 x362001 = if x5 < (x0.length : Int) then (if 0 ≤ x5 then (yJ.l1v x0 x4 x5 x362000 x362001 ((rd_T38 x0 x5).f0) ((rd_T38 x0 x5).f1)) else (none)) else (if x362001 < 0 then ((wT.f x362000 x362001 (-1)).bind fun bt367 => (if x4 > 0 then ((xU.f bt367.1 x4).bind fun t369 => (some (x4, t369, bt367.2))) else (some (x4, bt367.1, bt367.2)))) else (if x4 > 0 then ((xU.f x362000 x4).bind fun t370 => (some (x4, t370, x362001))) else (some (x4, x362000, x362001)))) := by
  refine lim_step (yJ.l0_mono x0 x4 x5 x362000 x362001) (fun k => rfl) (f := fun k => yJ.l0 (k + 1) x0 x4 x5 x362000 x362001) ?_
  simp only [yJ.l0]
  repeat' first
    | (with_reducible exact yJ.l1_lim _ _ _ _ _ _ _)
    | exact Lim.const _
    | refine Lim.ite ?_ ?_
    | refine Lim.bind ?_ (fun _ => ?_)
theorem yJ.l1v_eq (x0 : List (S38)) (x4 : Int) (x5 : Int) (x362000 : Int) (x362001 : Int) (x364000 : Int) (x364001 : Int) : yJ.l1v x0 x4 x5 x362000 x362001 x364000 x364001 = if x364001 = 0 then ((xD.fv x4 x364000).bind fun t365 => (if t365 > 0 then ((xU.f x362000 t365).bind fun t366 => (yJ.l0v x0 t365 (wrap64 (x5 + 1)) t366 x362001)) else (yJ.l0v x0 t365 (wrap64 (x5 + 1)) x362000 x362001))) else (yJ.l1v x0 x4 x5 x364000 x364001 (wrap64 (x362000 - (wrap64 ((wrap64 (Int.tdiv x362001 x364001)) * x364000)))) (wrap64 (x362001 - (wrap64 ((wrap64 (Int.tdiv x362001 x364001)) * x364001))))) := by
  refine lim_step (yJ.l1_mono x0 x4 x5 x362000 x362001 x364000 x364001) (fun k => rfl) (f := fun k => yJ.l1 (k + 1) x0 x4 x5 x362000 x362001 x364000 x364001) ?_
  simp only [yJ.l1]
  repeat' first
    | (with_reducible exact xD.f_lim _ _)
    | (with_reducible exact yJ.l0_lim _ _ _ _ _)
    | (with_reducible exact yJ.l1_lim _ _ _ _ _ _ _)
    | exact Lim.const _
    | refine Lim.ite ?_ ?_
    | refine Lim.bind ?_ (fun _ => ?_)
theorem yJ.fv_eq (l0 : List (S38)) : yJ.fv l0 = yJ.l0v l0 0 0 0 0 := by
  refine lim_now (fun k => rfl) (f := fun k => yJ.l0 k l0 0 0 0 0) ?_
  repeat' first
    | (with_reducible exact yJ.l0_lim _ _ _ _ _)
    | exact Lim.const _
    | refine Lim.ite ?_ ?_
    | refine Lim.bind ?_ (fun _ => ?_)
open Go.Proofs.YtomgliinndfliaaW.PrintWords
theorem yK.l0_mono (x1587000 : Int) (x1587001 : Int) (x1587002 : Int) (x1588000 : Int) (x1588001 : Int) (x1590000 : Int) (x1590001 : Int) : Mono (fun k => yK.l0 k x1587000 x1587001 x1587002 x1588000 x1588001 x1590000 x1590001) := (fun k => (yK.mono_l k) x1587000 x1587001 x1587002 x1588000 x1588001 x1590000 x1590001)
noncomputable def yK.l0v (x1587000 : Int) (x1587001 : Int) (x1587002 : Int) (x1588000 : Int) (x1588001 : Int) (x1590000 : Int) (x1590001 : Int) : Option (Int × Int) := lim (fun k => yK.l0 k x1587000 x1587001 x1587002 x1588000 x1588001 x1590000 x1590001)
theorem yK.l0_lim (x1587000 : Int) (x1587001 : Int) (x1587002 : Int) (x1588000 : Int) (x1588001 : Int) (x1590000 : Int) (x1590001 : Int) : Lim (fun k => yK.l0 k x1587000 x1587001 x1587002 x1588000 x1588001 x1590000 x1590001) (yK.l0v x1587000 x1587001 x1587002 x1588000 x1588001 x1590000 x1590001) := lim_Lim (yK.l0_mono x1587000 x1587001 x1587002 x1588000 x1588001 x1590000 x1590001)
theorem yK.f_mono (a0_0 : Int) (a0_1 : Int) (a0_2 : Int) (a1_0 : Int) (a1_1 : Int) : Mono (fun k => yK.f k a0_0 a0_1 a0_2 a1_0 a1_1) := (fun k => yK.mono a0_0 a0_1 a0_2 a1_0 a1_1 k)
noncomputable def yK.fv (a0_0 : Int) (a0_1 : Int) (a0_2 : Int) (a1_0 : Int) (a1_1 : Int) : Option (Int × Int) := lim (fun k => yK.f k a0_0 a0_1 a0_2 a1_0 a1_1)
theorem yK.f_lim (a0_0 : Int) (a0_1 : Int) (a0_2 : Int) (a1_0 : Int) (a1_1 : Int) : Lim (fun k => yK.f k a0_0 a0_1 a0_2 a1_0 a1_1) (yK.fv a0_0 a0_1 a0_2 a1_0 a1_1) := lim_Lim (yK.f_mono a0_0 a0_1 a0_2 a1_0 a1_1)
theorem yK.l0v_eq (x1587000 : Int) (x1587001 : Int) (x1587002 : Int) (x1588000 : Int) (x1588001 : Int) (x1590000 : Int) (x1590001 : Int) : yK.l0v x1587000 x1587001 x1587002 x1588000 x1588001 x1590000 x1590001 = (xY.f x1587000 x1587001 x1587002 x1590000 x1590001).bind fun t1590 => (if t1590 = true then (some (x1590000, x1590001)) else ((xW.f x1590000 x1590001 x1588000 x1588001).bind fun bt1591 => (yK.l0v x1587000 x1587001 x1587002 x1588000 x1588001 bt1591.1 bt1591.2))) := by
  refine lim_step (yK.l0_mono x1587000 x1587001 x1587002 x1588000 x1588001 x1590000 x1590001) (fun k => rfl) (f := fun k => yK.l0 (k + 1) x1587000 x1587001 x1587002 x1588000 x1588001 x1590000 x1590001) ?_
  simp only [yK.l0]
  repeat' first
    | (with_reducible exact yK.l0_lim _ _ _ _ _ _ _)
    | exact Lim.const _
    | refine Lim.ite ?_ ?_
    | refine Lim.bind ?_ (fun _ => ?_)
theorem yK.fv_eq (a0_0 : Int) (a0_1 : Int) (a0_2 : Int) (a1_0 : Int) (a1_1 : Int) : yK.fv a0_0 a0_1 a0_2 a1_0 a1_1 = yK.l0v a0_0 a0_1 a0_2 a1_0 a1_1 a1_0 a1_1 := by
  refine lim_now (fun k => rfl) (f := fun k => yK.l0 k a0_0 a0_1 a0_2 a1_0 a1_1 a1_0 a1_1) ?_
  repeat' first
    | (with_reducible exact yK.l0_lim _ _ _ _ _ _ _)
    | exact Lim.const _
    | refine Lim.ite ?_ ?_
    | refine Lim.bind ?_ (fun _ => ?_)
open Go.Proofs.YtomgliinndfliaaW.PrintWords
theorem xC.f_mono (a0_0 : Int) (a0_1 : Int) (a0_2 : Int) : Mono (fun k => xC.f k a0_0 a0_1 a0_2) := (fun k => xC.mono a0_0 a0_1 a0_2 k)
noncomputable def xC.fv (a0_0 : Int) (a0_1 : Int) (a0_2 : Int) : Option (Int) := lim (fun k => xC.f k a0_0 a0_1 a0_2)
theorem xC.f_lim (a0_0 : Int) (a0_1 : Int) (a0_2 : Int) : Lim (fun k => xC.f k a0_0 a0_1 a0_2) (xC.fv a0_0 a0_1 a0_2) := lim_Lim (xC.f_mono a0_0 a0_1 a0_2)
theorem xC.fv_eq (a0_0 : Int) (a0_1 : Int) (a0_2 : Int) : xC.fv a0_0 a0_1 a0_2 = (yK.fv a0_0 a0_1 a0_2 0 1).bind fun bt1594 => (some bt1594.2) := by
  refine lim_now (fun k => rfl) (f := fun k => (yK.f k a0_0 a0_1 a0_2 0 1).bind fun bt1594 => (some bt1594.2)) ?_
  repeat' first
    | (with_reducible exact yK.f_lim _ _ _ _ _)
    | exact Lim.const _
    | refine Lim.ite ?_ ?_
    | refine Lim.bind ?_ (fun _ => ?_)
open Go.Proofs.YtomgliinndfliaaW.PrintWords
theorem yO.l0_mono (x1 : Int) (x7 : Int) (x8 : Int) (x1691000 : Int) (x1691001 : Int) (x1691002 : Int) : Mono (fun k => yO.l0 k x1 x7 x8 x1691000 x1691001 x1691002) := (fun k => (yO.mono_l k) x1 x7 x8 x1691000 x1691001 x1691002)
noncomputable def yO.l0v (x1 : Int) (x7 : Int) (x8 : Int) (x1691000 : Int) (x1691001 : Int) (x1691002 : Int) : Option (Int) := lim (fun k => yO.l0 k x1 x7 x8 x1691000 x1691001 x1691002)
theorem yO.l0_lim (x1 : Int) (x7 : Int) (x8 : Int) (x1691000 : Int) (x1691001 : Int) (x1691002 : Int) : Lim (fun k => yO.l0 k x1 x7 x8 x1691000 x1691001 x1691002) (yO.l0v x1 x7 x8 x1691000 x1691001 x1691002) := lim_Lim (yO.l0_mono x1 x7 x8 x1691000 x1691001 x1691002)
theorem yO.f_mono (a0_0 : Int) (a0_1 : Int) (a0_2 : Int) (a1 : Int) : Mono (fun k => yO.f k a0_0 a0_1 a0_2 a1) := (fun k => yO.mono a0_0 a0_1 a0_2 a1 k)
noncomputable def yO.fv (a0_0 : Int) (a0_1 : Int) (a0_2 : Int) (a1 : Int) : Option (Int) := lim (fun k => yO.f k a0_0 a0_1 a0_2 a1)
theorem yO.f_lim (a0_0 : Int) (a0_1 : Int) (a0_2 : Int) (a1 : Int) : Lim (fun k => yO.f k a0_0 a0_1 a0_2 a1) (yO.fv a0_0 a0_1 a0_2 a1) := lim_Lim (yO.f_mono a0_0 a0_1 a0_2 a1)
theorem yO.l0v_eq (x1 : Int) (x7 : Int) (x8 : Int) (x1691000 : Int) (x1691001 : Int) (x1691002 : Int) : yO.l0v x1 x7 x8 x1691000 x1691001 x1691002 = if x8 < x7 then ((xY.f x1691000 x1691001 x1691002 x1 (wrap64 (-x8))).bind fun t1692 => (if t1692 = true then (some x8) else (yO.l0v x1 x7 (wrap64 (x8 + 1)) x1691000 x1691001 x1691002))) else (some (-1)) := by
  refine lim_step (yO.l0_mono x1 x7 x8 x1691000 x1691001 x1691002) (fun k => rfl) (f := fun k => yO.l0 (k + 1) x1 x7 x8 x1691000 x1691001 x1691002) ?_
  simp only [yO.l0]
  repeat' first
    | (with_reducible exact yO.l0_lim _ _ _ _ _ _)
    | exact Lim.const _
    | refine Lim.ite ?_ ?_
    | refine Lim.bind ?_ (fun _ => ?_)
theorem yO.fv_eq (a0_0 : Int) (a0_1 : Int) (a0_2 : Int) (a1 : Int) : yO.fv a0_0 a0_1 a0_2 a1 = (xC.fv a0_0 a0_1 a0_2).bind fun t1691 => (yO.l0v a1 t1691 0 a0_0 a0_1 a0_2) := by
  refine lim_now (fun k => rfl) (f := fun k => (xC.f k a0_0 a0_1 a0_2).bind fun t1691 => (yO.l0 k a1 t1691 0 a0_0 a0_1 a0_2)) ?_
  repeat' first
    | (with_reducible exact yO.l0_lim _ _ _ _ _ _)
    | (with_reducible exact xC.f_lim _ _ _)
    | exact Lim.const _
    | refine Lim.ite ?_ ?_
    | refine Lim.bind ?_ (fun _ => ?_)
open Go.Proofs.YtomgliinndfliaaW.PrintWords
theorem yL.l0_mono (x9 : List (S38)) (x10 : Int) (x11 : Int) (x1424000 : Int) (x1424001 : Int) (x1424002 : Int) (x1424003 : Int) (x1424004 : List Int) (x1425000 : Int) (x1425001 : Int) (x1425002 : Int) (x1425003 : Int) (x1425004 : Int) (x1425005 : Int) : Mono (fun k => yL.l0 k x9 x10 x11 x1424000 x1424001 x1424002 x1424003 x1424004 x1425000 x1425001 x1425002 x1425003 x1425004 x1425005) := (fun k => (yL.mono_l k) x9 x10 x11 x1424000 x1424001 x1424002 x1424003 x1424004 x1425000 x1425001 x1425002 x1425003 x1425004 x1425005)
noncomputable def yL.l0v (x9 : List (S38)) (x10 : Int) (x11 : Int) (x1424000 : Int) (x1424001 : Int) (x1424002 : Int) (x1424003 : Int) (x1424004 : List Int) (x1425000 : Int) (x1425001 : Int) (x1425002 : Int) (x1425003 : Int) (x1425004 : Int) (x1425005 : Int) : Option (Bool) := lim (fun k => yL.l0 k x9 x10 x11 x1424000 x1424001 x1424002 x1424003 x1424004 x1425000 x1425001 x1425002 x1425003 x1425004 x1425005)
theorem yL.l0_lim (x9 : List (S38)) (x10 : Int) (x11 : Int) (x1424000 : Int) (x1424001 : Int) (x1424002 : Int) (x1424003 : Int) (x1424004 : List Int) (x1425000 : Int) (x1425001 : Int) (x1425002 : Int) (x1425003 : Int) (x1425004 : Int) (x1425005 : Int) : Lim (fun k => yL.l0 k x9 x10 x11 x1424000 x1424001 x1424002 x1424003 x1424004 x1425000 x1425001 x1425002 x1425003 x1425004 x1425005) (yL.l0v x9 x10 x11 x1424000 x1424001 x1424002 x1424003 x1424004 x1425000 x1425001 x1425002 x1425003 x1425004 x1425005) := lim_Lim (yL.l0_mono x9 x10 x11 x1424000 x1424001 x1424002 x1424003 x1424004 x1425000 x1425001 x1425002 x1425003 x1425004 x1425005)
theorem yL.f_mono (a0_0 : Int) (a0_1 : Int) (a0_2 : Int) (a0_3 : Int) (l0_4 : List Int) (a1_0 : Int) (a1_1 : Int) (a1_2 : Int) (a1_3 : Int) (a1_4 : Int) (a1_5 : Int) : Mono (fun k => yL.f k a0_0 a0_1 a0_2 a0_3 l0_4 a1_0 a1_1 a1_2 a1_3 a1_4 a1_5) := (fun k => yL.mono a0_0 a0_1 a0_2 a0_3 l0_4 a1_0 a1_1 a1_2 a1_3 a1_4 a1_5 k)
noncomputable def yL.fv (a0_0 : Int) (a0_1 : Int) (a0_2 : Int) (a0_3 : Int) (l0_4 : List Int) (a1_0 : Int) (a1_1 : Int) (a1_2 : Int) (a1_3 : Int) (a1_4 : Int) (a1_5 : Int) : Option (Bool) := lim (fun k => yL.f k a0_0 a0_1 a0_2 a0_3 l0_4 a1_0 a1_1 a1_2 a1_3 a1_4 a1_5)
theorem yL.f_lim (a0_0 : Int) (a0_1 : Int) (a0_2 : Int) (a0_3 : Int) (l0_4 : List Int) (a1_0 : Int) (a1_1 : Int) (a1_2 : Int) (a1_3 : Int) (a1_4 : Int) (a1_5 : Int) : Lim (fun k => yL.f k a0_0 a0_1 a0_2 a0_3 l0_4 a1_0 a1_1 a1_2 a1_3 a1_4 a1_5) (yL.fv a0_0 a0_1 a0_2 a0_3 l0_4 a1_0 a1_1 a1_2 a1_3 a1_4 a1_5) := lim_Lim (yL.f_mono a0_0 a0_1 a0_2 a0_3 l0_4 a1_0 a1_1 a1_2 a1_3 a1_4 a1_5)
theorem yL.l0v_eq (x9 : List (S38)) (x10 : Int) (x11 : Int) (x1424000 : Int) (x1424001 : Int) (x1424002 : Int) (x1424003 : Int) (x1424004 : List Int) (x1425000 : Int) (x1425001 : Int) (x1425002 : Int) (x1425003 : Int) (x1425004 : Int) (x1425005 : Int) : yL.l0v x9 x10 x11 x1424000 x1424001 x1424002 x1424003 x1424004 x1425000 x1425001 x1425002 x1425003 x1425004 x1425005 = if x11 < x10 then (if 0 ≤ x11 then (if x11 < (x9.length : Int) then ((xQ.f x1425000 x1425001 x1425002 x1425003 x1425004 x1425005 ((rd_T38 x9 x11).f0) ((rd_T38 x9 x11).f1)).bind fun bt1430 => ((xT.f x1424000 x1424001 x1424002 x1424003 x1424004 bt1430.1 bt1430.2).bind fun t1432 => (if x11 < (x1424004.length : Int) then (if t1432 = (rd x1424004 x11) then (yL.l0v x9 x10 (wrap64 (x11 + 1)) x1424000 x1424001 x1424002 x1424003 x1424004 x1425000 x1425001 x1425002 x1425003 x1425004 x1425005) else (some false)) else (none)))) else (none)) else (none)) else (some true) := by
  refine lim_step (yL.l0_mono x9 x10 x11 x1424000 x1424001 x1424002 x1424003 x1424004 x1425000 x1425001 x1425002 x1425003 x1425004 x1425005) (fun k => rfl) (f := fun k => yL.l0 (k + 1) x9 x10 x11 x1424000 x1424001 x1424002 x1424003 x1424004 x1425000 x1425001 x1425002 x1425003 x1425004 x1425005) ?_
  simp only [yL.l0]
  repeat' first
    | (with_reducible exact yL.l0_lim _ _ _ _ _ _ _ _ _ _ _ _ _ _)
    | exact Lim.const _
    | refine Lim.ite ?_ ?_
    | refine Lim.bind ?_ (fun _ => ?_)
theorem yL.fv_eq (a0_0 : Int) (a0_1 : Int) (a0_2 : Int) (a0_3 : Int) (l0_4 : List Int) (a1_0 : Int) (a1_1 : Int) (a1_2 : Int) (a1_3 : Int) (a1_4 : Int) (a1_5 : Int) : yL.fv a0_0 a0_1 a0_2 a0_3 l0_4 a1_0 a1_1 a1_2 a1_3 a1_4 a1_5 = (yF.fv a0_1 a0_2 a0_3).bind fun t1425 => (yL.l0v t1425 (t1425.length : Int) 0 a0_0 a0_1 a0_2 a0_3 l0_4 a1_0 a1_1 a1_2 a1_3 a1_4 a1_5) := by
  refine lim_now (fun k => rfl) (f := fun k => (yF.f k a0_1 a0_2 a0_3).bind fun t1425 => (yL.l0 k t1425 (t1425.length : Int) 0 a0_0 a0_1 a0_2 a0_3 l0_4 a1_0 a1_1 a1_2 a1_3 a1_4 a1_5)) ?_
  repeat' first
    | (with_reducible exact yF.f_lim _ _ _)
    | (with_reducible exact yL.l0_lim _ _ _ _ _ _ _ _ _ _ _ _ _ _)
    | exact Lim.const _
    | refine Lim.ite ?_ ?_
    | refine Lim.bind ?_ (fun _ => ?_)
open Go.Proofs.YtomgliinndfliaaW.PrintWords
theorem yG.l0_mono (x5 : List (S38)) (x19 : List (S38)) (x20 : Int) (x21 : Int) (x1435000 : Int) (x1435001 : Int) (x1435002 : Int) (x1435003 : Int) (x1435004 : List Int) : Mono (fun k => yG.l0 k x5 x19 x20 x21 x1435000 x1435001 x1435002 x1435003 x1435004) := (fun k => (yG.mono_l k) x5 x19 x20 x21 x1435000 x1435001 x1435002 x1435003 x1435004)
noncomputable def yG.l0v (x5 : List (S38)) (x19 : List (S38)) (x20 : Int) (x21 : Int) (x1435000 : Int) (x1435001 : Int) (x1435002 : Int) (x1435003 : Int) (x1435004 : List Int) : Option (Int × Int × Int) := lim (fun k => yG.l0 k x5 x19 x20 x21 x1435000 x1435001 x1435002 x1435003 x1435004)
theorem yG.l0_lim (x5 : List (S38)) (x19 : List (S38)) (x20 : Int) (x21 : Int) (x1435000 : Int) (x1435001 : Int) (x1435002 : Int) (x1435003 : Int) (x1435004 : List Int) : Lim (fun k => yG.l0 k x5 x19 x20 x21 x1435000 x1435001 x1435002 x1435003 x1435004) (yG.l0v x5 x19 x20 x21 x1435000 x1435001 x1435002 x1435003 x1435004) := lim_Lim (yG.l0_mono x5 x19 x20 x21 x1435000 x1435001 x1435002 x1435003 x1435004)
theorem yG.f_mono (a0_0 : Int) (a0_1 : Int) (a0_2 : Int) (a0_3 : Int) (l0_4 : List Int) : Mono (fun k => yG.f k a0_0 a0_1 a0_2 a0_3 l0_4) := (fun k => yG.mono a0_0 a0_1 a0_2 a0_3 l0_4 k)
noncomputable def yG.fv (a0_0 : Int) (a0_1 : Int) (a0_2 : Int) (a0_3 : Int) (l0_4 : List Int) : Option (Int × Int × Int) := lim (fun k => yG.f k a0_0 a0_1 a0_2 a0_3 l0_4)
theorem yG.f_lim (a0_0 : Int) (a0_1 : Int) (a0_2 : Int) (a0_3 : Int) (l0_4 : List Int) : Lim (fun k => yG.f k a0_0 a0_1 a0_2 a0_3 l0_4) (yG.fv a0_0 a0_1 a0_2 a0_3 l0_4) := lim_Lim (yG.f_mono a0_0 a0_1 a0_2 a0_3 l0_4)
theorem yG.l0v_eq (x5 : List (S38)) (x19 : List (S38)) (x20 : Int) (x21 : Int) (x1435000 : Int) (x1435001 : Int) (x1435002 : Int) (x1435003 : Int) (x1435004 : List Int) : yG.l0v x5 x19 x20 x21 x1435000 x1435001 x1435002 x1435003 x1435004 = if x21 < x20 then (if 0 ≤ x21 then (if x21 < (x19.length : Int) then ((wW.f).bind fun bt1453 => ((yL.fv x1435000 x1435001 x1435002 x1435003 x1435004 bt1453.1 bt1453.2.1 bt1453.2.2.1 bt1453.2.2.2 ((rd_T38 x19 x21).f0) ((rd_T38 x19 x21).f1)).bind fun t1457 => (if t1457 = true then (if x5.length < 8796093022208 then (yG.l0v (x5 ++ [(⟨(rd_T38 x19 x21).f0, (rd_T38 x19 x21).f1⟩ : S38)]) x19 x20 (wrap64 (x21 + 1)) x1435000 x1435001 x1435002 x1435003 x1435004) else (none)) else (yG.l0v x5 x19 x20 (wrap64 (x21 + 1)) x1435000 x1435001 x1435002 x1435003 x1435004)))) else (none)) else (none)) else ((yI.fv x5).bind fun bt1448 => (some (bt1448.1, bt1448.2.1, bt1448.2.2))) := by
  refine lim_step (yG.l0_mono x5 x19 x20 x21 x1435000 x1435001 x1435002 x1435003 x1435004) (fun k => rfl) (f := fun k => yG.l0 (k + 1) x5 x19 x20 x21 x1435000 x1435001 x1435002 x1435003 x1435004) ?_
  simp only [yG.l0]
  repeat' first
    | (with_reducible exact yG.l0_lim _ _ _ _ _ _ _ _ _)
    | (with_reducible exact yL.f_lim _ _ _ _ _ _ _ _ _ _ _)
    | (with_reducible exact yI.f_lim _)
    | exact Lim.const _
    | refine Lim.ite ?_ ?_
    | refine Lim.bind ?_ (fun _ => ?_)
theorem yG.fv_eq (a0_0 : Int) (a0_1 : Int) (a0_2 : Int) (a0_3 : Int) (l0_4 : List Int) : yG.fv a0_0 a0_1 a0_2 a0_3 l0_4 = (xP.f a0_1 a0_2 a0_3).bind fun bt1436 => ((yF.fv a0_1 a0_2 a0_3).bind fun t1445 => (yG.l0v (([(⟨bt1436.1, bt1436.2.1⟩ : S38), (⟨bt1436.2.2.1, bt1436.2.2.2⟩ : S38)] : List (S38))) t1445 (t1445.length : Int) 0 a0_0 a0_1 a0_2 a0_3 l0_4)) := by
  refine lim_now (fun k => rfl) (f := fun k => (xP.f a0_1 a0_2 a0_3).bind fun bt1436 => ((yF.f k a0_1 a0_2 a0_3).bind fun t1445 => (yG.l0 k (([(⟨bt1436.1, bt1436.2.1⟩ : S38), (⟨bt1436.2.2.1, bt1436.2.2.2⟩ : S38)] : List (S38))) t1445 (t1445.length : Int) 0 a0_0 a0_1 a0_2 a0_3 l0_4))) ?_
  repeat' first
    | (with_reducible exact yF.f_lim _ _ _)
    | (with_reducible exact yG.l0_lim _ _ _ _ _ _ _ _ _)
    | exact Lim.const _
    | refine Lim.ite ?_ ?_
    | refine Lim.bind ?_ (fun _ => ?_)
open Go.Proofs.YtomgliinndfliaaW.PrintWords
theorem xH.f_mono (a0_0 : Int) (a0_1 : Int) (a0_2 : Int) (a0_3 : Int) (l0_4 : List Int) : Mono (fun k => xH.f k a0_0 a0_1 a0_2 a0_3 l0_4) := (fun k => xH.mono a0_0 a0_1 a0_2 a0_3 l0_4 k)
noncomputable def xH.fv (a0_0 : Int) (a0_1 : Int) (a0_2 : Int) (a0_3 : Int) (l0_4 : List Int) : Option (Int × Int × Int × Int) := lim (fun k => xH.f k a0_0 a0_1 a0_2 a0_3 l0_4)
theorem xH.f_lim (a0_0 : Int) (a0_1 : Int) (a0_2 : Int) (a0_3 : Int) (l0_4 : List Int) : Lim (fun k => xH.f k a0_0 a0_1 a0_2 a0_3 l0_4) (xH.fv a0_0 a0_1 a0_2 a0_3 l0_4) := lim_Lim (xH.f_mono a0_0 a0_1 a0_2 a0_3 l0_4)
theorem xH.fv_eq (a0_0 : Int) (a0_1 : Int) (a0_2 : Int) (a0_3 : Int) (l0_4 : List Int) : xH.fv a0_0 a0_1 a0_2 a0_3 l0_4 = (xO.f a0_0 a0_1 a0_2 a0_3 l0_4).bind fun t1578 => (if t1578 = true then (if a0_0 = 0 then ((yG.fv a0_0 a0_1 a0_2 a0_3 l0_4).bind fun bt1579 => (some (bt1579.1, bt1579.2.1, bt1579.2.2, 0))) else (some (0, 0, 0, 1))) else (some (0, 0, 0, 1))) := by
  refine lim_now (fun k => rfl) (f := fun k => (xO.f a0_0 a0_1 a0_2 a0_3 l0_4).bind fun t1578 => (if t1578 = true then (if a0_0 = 0 then ((yG.f k a0_0 a0_1 a0_2 a0_3 l0_4).bind fun bt1579 => (some (bt1579.1, bt1579.2.1, bt1579.2.2, 0))) else (some (0, 0, 0, 1))) else (some (0, 0, 0, 1)))) ?_
  repeat' first
    | (with_reducible exact yG.f_lim _ _ _ _ _)
    | exact Lim.const _
    | refine Lim.ite ?_ ?_
    | refine Lim.bind ?_ (fun _ => ?_)
open Go.Proofs.YtomgliinndfliaaW.PrintWords
theorem yT.l0_mono (x5 : List (S38)) (x6 : Int) (x1324000 : Int) (x1324001 : Int) (x1324002 : Int) (x1324003 : Int) (x1324004 : List Int) (x1325000 : Int) (x1325001 : Int) (x1325002 : Int) (x1325003 : Int) (x1325004 : Int) (x1325005 : Int) : Mono (fun k => yT.l0 k x5 x6 x1324000 x1324001 x1324002 x1324003 x1324004 x1325000 x1325001 x1325002 x1325003 x1325004 x1325005) := (fun k => (yT.mono_l k) x5 x6 x1324000 x1324001 x1324002 x1324003 x1324004 x1325000 x1325001 x1325002 x1325003 x1325004 x1325005)
noncomputable def yT.l0v (x5 : List (S38)) (x6 : Int) (x1324000 : Int) (x1324001 : Int) (x1324002 : Int) (x1324003 : Int) (x1324004 : List Int) (x1325000 : Int) (x1325001 : Int) (x1325002 : Int) (x1325003 : Int) (x1325004 : Int) (x1325005 : Int) : Option (Bool) := lim (fun k => yT.l0 k x5 x6 x1324000 x1324001 x1324002 x1324003 x1324004 x1325000 x1325001 x1325002 x1325003 x1325004 x1325005)
theorem yT.l0_lim (x5 : List (S38)) (x6 : Int) (x1324000 : Int) (x1324001 : Int) (x1324002 : Int) (x1324003 : Int) (x1324004 : List Int) (x1325000 : Int) (x1325001 : Int) (x1325002 : Int) (x1325003 : Int) (x1325004 : Int) (x1325005 : Int) : Lim (fun k => yT.l0 k x5 x6 x1324000 x1324001 x1324002 x1324003 x1324004 x1325000 x1325001 x1325002 x1325003 x1325004 x1325005) (yT.l0v x5 x6 x1324000 x1324001 x1324002 x1324003 x1324004 x1325000 x1325001 x1325002 x1325003 x1325004 x1325005) := lim_Lim (yT.l0_mono x5 x6 x1324000 x1324001 x1324002 x1324003 x1324004 x1325000 x1325001 x1325002 x1325003 x1325004 x1325005)
theorem yT.f_mono (a0_0 : Int) (a0_1 : Int) (a0_2 : Int) (a0_3 : Int) (l0_4 : List Int) (a1_0 : Int) (a1_1 : Int) (a1_2 : Int) (a1_3 : Int) (a1_4 : Int) (a1_5 : Int) : Mono (fun k => yT.f k a0_0 a0_1 a0_2 a0_3 l0_4 a1_0 a1_1 a1_2 a1_3 a1_4 a1_5) := (fun k => yT.mono a0_0 a0_1 a0_2 a0_3 l0_4 a1_0 a1_1 a1_2 a1_3 a1_4 a1_5 k)
noncomputable def yT.fv (a0_0 : Int) (a0_1 : Int) (a0_2 : Int) (a0_3 : Int) (l0_4 : List Int) (a1_0 : Int) (a1_1 : Int) (a1_2 : Int) (a1_3 : Int) (a1_4 : Int) (a1_5 : Int) : Option (Bool) := lim (fun k => yT.f k a0_0 a0_1 a0_2 a0_3 l0_4 a1_0 a1_1 a1_2 a1_3 a1_4 a1_5)
theorem yT.f_lim (a0_0 : Int) (a0_1 : Int) (a0_2 : Int) (a0_3 : Int) (l0_4 : List Int) (a1_0 : Int) (a1_1 : Int) (a1_2 : Int) (a1_3 : Int) (a1_4 : Int) (a1_5 : Int) : Lim (fun k => yT.f k a0_0 a0_1 a0_2 a0_3 l0_4 a1_0 a1_1 a1_2 a1_3 a1_4 a1_5) (yT.fv a0_0 a0_1 a0_2 a0_3 l0_4 a1_0 a1_1 a1_2 a1_3 a1_4 a1_5) := lim_Lim (yT.f_mono a0_0 a0_1 a0_2 a0_3 l0_4 a1_0 a1_1 a1_2 a1_3 a1_4 a1_5)
theorem yT.l0v_eq (x5 : List (S38)) (x6 : Int) (x1324000 : Int) (x1324001 : Int) (x1324002 : Int) (x1324003 : Int) (x1324004 : List Int) (x1325000 : Int) (x1325001 : Int) (x1325002 : Int) (x1325003 : Int) (x1325004 : Int) (x1325005 : Int) : yT.l0v x5 x6 x1324000 x1324001 x1324002 x1324003 x1324004 x1325000 x1325001 x1325002 x1325003 x1325004 x1325005 = if x6 < (x5.length : Int) then (if 0 ≤ x6 then ((xX.f x1325000 x1325001 x1325002 x1325003 x1325004 x1325005 ((rd_T38 x5 x6).f0) ((rd_T38 x5 x6).f1)).bind fun bt1329 => ((xV.f x1324000 x1324001 x1324002 x1324003 x1324004 bt1329.1 bt1329.2).bind fun t1331 => ((xV.f x1324000 x1324001 x1324002 x1324003 x1324004 ((rd_T38 x5 x6).f0) ((rd_T38 x5 x6).f1)).bind fun t1333 => (if t1331 = t1333 then (yT.l0v x5 (wrap64 (x6 + 1)) x1324000 x1324001 x1324002 x1324003 x1324004 x1325000 x1325001 x1325002 x1325003 x1325004 x1325005) else (some false))))) else (none)) else (some true) := by
  refine lim_step (yT.l0_mono x5 x6 x1324000 x1324001 x1324002 x1324003 x1324004 x1325000 x1325001 x1325002 x1325003 x1325004 x1325005) (fun k => rfl) (f := fun k => yT.l0 (k + 1) x5 x6 x1324000 x1324001 x1324002 x1324003 x1324004 x1325000 x1325001 x1325002 x1325003 x1325004 x1325005) ?_
  simp only [yT.l0]
  repeat' first
    | (with_reducible exact yT.l0_lim _ _ _ _ _ _ _ _ _ _ _ _ _)
    | exact Lim.const _
    | refine Lim.ite ?_ ?_
    | refine Lim.bind ?_ (fun _ => ?_)
theorem yT.fv_eq (a0_0 : Int) (a0_1 : Int) (a0_2 : Int) (a0_3 : Int) (l0_4 : List Int) (a1_0 : Int) (a1_1 : Int) (a1_2 : Int) (a1_3 : Int) (a1_4 : Int) (a1_5 : Int) : yT.fv a0_0 a0_1 a0_2 a0_3 l0_4 a1_0 a1_1 a1_2 a1_3 a1_4 a1_5 = (yM.fv a0_1 a0_2 a0_3).bind fun t1325 => (yT.l0v t1325 0 a0_0 a0_1 a0_2 a0_3 l0_4 a1_0 a1_1 a1_2 a1_3 a1_4 a1_5) := by
  refine lim_now (fun k => rfl) (f := fun k => (yM.f k a0_1 a0_2 a0_3).bind fun t1325 => (yT.l0 k t1325 0 a0_0 a0_1 a0_2 a0_3 l0_4 a1_0 a1_1 a1_2 a1_3 a1_4 a1_5)) ?_
  repeat' first
    | (with_reducible exact yM.f_lim _ _ _)
    | (with_reducible exact yT.l0_lim _ _ _ _ _ _ _ _ _ _ _ _ _)
    | exact Lim.const _
    | refine Lim.ite ?_ ?_
    | refine Lim.bind ?_ (fun _ => ?_)
open Go.Proofs.YtomgliinndfliaaW.PrintWords
theorem yU.l0_mono (x3 : List (S38)) (x4 : List (S38)) (x5 : Int) (x1335000 : Int) (x1335001 : Int) (x1335002 : Int) (x1335003 : Int) (x1335004 : List Int) : Mono (fun k => yU.l0 k x3 x4 x5 x1335000 x1335001 x1335002 x1335003 x1335004) := (fun k => (yU.mono_l k) x3 x4 x5 x1335000 x1335001 x1335002 x1335003 x1335004)
noncomputable def yU.l0v (x3 : List (S38)) (x4 : List (S38)) (x5 : Int) (x1335000 : Int) (x1335001 : Int) (x1335002 : Int) (x1335003 : Int) (x1335004 : List Int) : Option (Int × Int × Int) := lim (fun k => yU.l0 k x3 x4 x5 x1335000 x1335001 x1335002 x1335003 x1335004)
theorem yU.l0_lim (x3 : List (S38)) (x4 : List (S38)) (x5 : Int) (x1335000 : Int) (x1335001 : Int) (x1335002 : Int) (x1335003 : Int) (x1335004 : List Int) : Lim (fun k => yU.l0 k x3 x4 x5 x1335000 x1335001 x1335002 x1335003 x1335004) (yU.l0v x3 x4 x5 x1335000 x1335001 x1335002 x1335003 x1335004) := lim_Lim (yU.l0_mono x3 x4 x5 x1335000 x1335001 x1335002 x1335003 x1335004)
theorem yU.f_mono (a0_0 : Int) (a0_1 : Int) (a0_2 : Int) (a0_3 : Int) (l0_4 : List Int) : Mono (fun k => yU.f k a0_0 a0_1 a0_2 a0_3 l0_4) := (fun k => yU.mono a0_0 a0_1 a0_2 a0_3 l0_4 k)
noncomputable def yU.fv (a0_0 : Int) (a0_1 : Int) (a0_2 : Int) (a0_3 : Int) (l0_4 : List Int) : Option (Int × Int × Int) := lim (fun k => yU.f k a0_0 a0_1 a0_2 a0_3 l0_4)
theorem yU.f_lim (a0_0 : Int) (a0_1 : Int) (a0_2 : Int) (a0_3 : Int) (l0_4 : List Int) : Lim (fun k => yU.f k a0_0 a0_1 a0_2 a0_3 l0_4) (yU.fv a0_0 a0_1 a0_2 a0_3 l0_4) := lim_Lim (yU.f_mono a0_0 a0_1 a0_2 a0_3 l0_4)
theorem yU.l0v_eq (x3 : List (S38)) (x4 : List (S38)) (x5 : Int) (x1335000 : Int) (x1335001 : Int) (x1335002 : Int) (x1335003 : Int) (x1335004 : List Int) : yU.l0v x3 x4 x5 x1335000 x1335001 x1335002 x1335003 x1335004 = if x5 < (x3.length : Int) then ((wV.f).bind fun bt1345 => (if 0 ≤ x5 then ((yT.fv x1335000 x1335001 x1335002 x1335003 x1335004 bt1345.1 bt1345.2.1 bt1345.2.2.1 bt1345.2.2.2 ((rd_T38 x3 x5).f0) ((rd_T38 x3 x5).f1)).bind fun t1350 => (if t1350 = true then (if x4.length < 8796093022208 then (yU.l0v x3 (x4 ++ [(⟨(rd_T38 x3 x5).f0, (rd_T38 x3 x5).f1⟩ : S38)]) (wrap64 (x5 + 1)) x1335000 x1335001 x1335002 x1335003 x1335004) else (none)) else (yU.l0v x3 x4 (wrap64 (x5 + 1)) x1335000 x1335001 x1335002 x1335003 x1335004))) else (none))) else ((yJ.fv x4).bind fun bt1342 => (some (bt1342.1, bt1342.2.1, bt1342.2.2))) := by
  refine lim_step (yU.l0_mono x3 x4 x5 x1335000 x1335001 x1335002 x1335003 x1335004) (fun k => rfl) (f := fun k => yU.l0 (k + 1) x3 x4 x5 x1335000 x1335001 x1335002 x1335003 x1335004) ?_
  simp only [yU.l0]
  repeat' first
    | (with_reducible exact yJ.f_lim _)
    | (with_reducible exact yU.l0_lim _ _ _ _ _ _ _ _)
    | (with_reducible exact yT.f_lim _ _ _ _ _ _ _ _ _ _ _)
    | exact Lim.const _
    | refine Lim.ite ?_ ?_
    | refine Lim.bind ?_ (fun _ => ?_)
theorem yU.fv_eq (a0_0 : Int) (a0_1 : Int) (a0_2 : Int) (a0_3 : Int) (l0_4 : List Int) : yU.fv a0_0 a0_1 a0_2 a0_3 l0_4 = (yM.fv a0_1 a0_2 a0_3).bind fun t1336 => ((wM.f a0_1 a0_2 a0_3).bind fun t1339 => (yU.l0v t1336 t1339 0 a0_0 a0_1 a0_2 a0_3 l0_4)) := by
  refine lim_now (fun k => rfl) (f := fun k => (yM.f k a0_1 a0_2 a0_3).bind fun t1336 => ((wM.f a0_1 a0_2 a0_3).bind fun t1339 => (yU.l0 k t1336 t1339 0 a0_0 a0_1 a0_2 a0_3 l0_4))) ?_
  repeat' first
    | (with_reducible exact yM.f_lim _ _ _)
    | (with_reducible exact yU.l0_lim _ _ _ _ _ _ _ _)
    | exact Lim.const _
    | refine Lim.ite ?_ ?_
    | refine Lim.bind ?_ (fun _ => ?_)
open Go.Proofs.YtomgliinndfliaaW.PrintWords
theorem yQ.j0_mono (x1 : Bool) (x13 : Bool) (x1558000 : Int) (x1558001 : Int) (x1558002 : Int) (x1558003 : Int) (x1558004 : List Int) : Mono (fun k => yQ.j0 k x1 x13 x1558000 x1558001 x1558002 x1558003 x1558004) := (fun k => (yQ.mono_l k) x1 x13 x1558000 x1558001 x1558002 x1558003 x1558004)
noncomputable def yQ.j0v (x1 : Bool) (x13 : Bool) (x1558000 : Int) (x1558001 : Int) (x1558002 : Int) (x1558003 : Int) (x1558004 : List Int) : Option (Int × Int × Int × Int) := lim (fun k => yQ.j0 k x1 x13 x1558000 x1558001 x1558002 x1558003 x1558004)
theorem yQ.j0_lim (x1 : Bool) (x13 : Bool) (x1558000 : Int) (x1558001 : Int) (x1558002 : Int) (x1558003 : Int) (x1558004 : List Int) : Lim (fun k => yQ.j0 k x1 x13 x1558000 x1558001 x1558002 x1558003 x1558004) (yQ.j0v x1 x13 x1558000 x1558001 x1558002 x1558003 x1558004) := lim_Lim (yQ.j0_mono x1 x13 x1558000 x1558001 x1558002 x1558003 x1558004)
theorem yQ.f_mono (a0_0 : Int) (a0_1 : Int) (a0_2 : Int) (a0_3 : Int) (l0_4 : List Int) (a1 : Bool) : Mono (fun k => yQ.f k a0_0 a0_1 a0_2 a0_3 l0_4 a1) := (fun k => yQ.mono a0_0 a0_1 a0_2 a0_3 l0_4 a1 k)
noncomputable def yQ.fv (a0_0 : Int) (a0_1 : Int) (a0_2 : Int) (a0_3 : Int) (l0_4 : List Int) (a1 : Bool) : Option (Int × Int × Int × Int) := lim (fun k => yQ.f k a0_0 a0_1 a0_2 a0_3 l0_4 a1)
theorem yQ.f_lim (a0_0 : Int) (a0_1 : Int) (a0_2 : Int) (a0_3 : Int) (l0_4 : List Int) (a1 : Bool) : Lim (fun k => yQ.f k a0_0 a0_1 a0_2 a0_3 l0_4 a1) (yQ.fv a0_0 a0_1 a0_2 a0_3 l0_4 a1) := lim_Lim (yQ.f_mono a0_0 a0_1 a0_2 a0_3 l0_4 a1)
theorem yQ.j0v_eq (x1 : Bool) (x13 : Bool) (x1558000 : Int) (x1558001 : Int) (x1558002 : Int) (x1558003 : Int) (x1558004 : List Int) : yQ.j0v x1 x13 x1558000 x1558001 x1558002 x1558003 x1558004 = if x13 = true then (some (0, 0, 0, 1)) else (if x1 = true then ((yU.fv x1558000 x1558001 x1558002 x1558003 x1558004).bind fun bt1560 => (some (bt1560.1, bt1560.2.1, bt1560.2.2, 0))) else (some (0, 0, 0, 2))) := by
  refine lim_step (yQ.j0_mono x1 x13 x1558000 x1558001 x1558002 x1558003 x1558004) (fun k => rfl) (f := fun k => yQ.j0 (k + 1) x1 x13 x1558000 x1558001 x1558002 x1558003 x1558004) ?_
  simp only [yQ.j0]
  repeat' first
    | (with_reducible exact yU.f_lim _ _ _ _ _)
    | exact Lim.const _
    | refine Lim.ite ?_ ?_
    | refine Lim.bind ?_ (fun _ => ?_)
theorem yQ.fv_eq (a0_0 : Int) (a0_1 : Int) (a0_2 : Int) (a0_3 : Int) (l0_4 : List Int) (a1 : Bool) : yQ.fv a0_0 a0_1 a0_2 a0_3 l0_4 a1 = (xL.fv a0_0 a0_1 a0_2 a0_3 l0_4).bind fun t1559 => (if t1559 = true then (yQ.j0v a1 (a0_0 != 0) a0_0 a0_1 a0_2 a0_3 l0_4) else (yQ.j0v a1 true a0_0 a0_1 a0_2 a0_3 l0_4)) := by
  refine lim_now (fun k => rfl) (f := fun k => (xL.f k a0_0 a0_1 a0_2 a0_3 l0_4).bind fun t1559 => (if t1559 = true then (yQ.j0 k a1 (a0_0 != 0) a0_0 a0_1 a0_2 a0_3 l0_4) else (yQ.j0 k a1 true a0_0 a0_1 a0_2 a0_3 l0_4))) ?_
  repeat' first
    | (with_reducible exact xL.f_lim _ _ _ _ _)
    | (with_reducible exact yQ.j0_lim _ _ _ _ _ _ _)
    | exact Lim.const _
    | refine Lim.ite ?_ ?_
    | refine Lim.bind ?_ (fun _ => ?_)
open Go.Proofs.YtomgliinndfliaaW.PrintWords
theorem yP.l0_mono (x3 : Int) (x1568000 : Int) (x1568001 : Int) (x1568002 : Int) : Mono (fun k => yP.l0 k x3 x1568000 x1568001 x1568002) := (fun k => (yP.mono_l k) x3 x1568000 x1568001 x1568002)
noncomputable def yP.l0v (x3 : Int) (x1568000 : Int) (x1568001 : Int) (x1568002 : Int) : Option (Int) := lim (fun k => yP.l0 k x3 x1568000 x1568001 x1568002)
theorem yP.l0_lim (x3 : Int) (x1568000 : Int) (x1568001 : Int) (x1568002 : Int) : Lim (fun k => yP.l0 k x3 x1568000 x1568001 x1568002) (yP.l0v x3 x1568000 x1568001 x1568002) := lim_Lim (yP.l0_mono x3 x1568000 x1568001 x1568002)
theorem yP.f_mono (a0_0 : Int) (a0_1 : Int) (a0_2 : Int) : Mono (fun k => yP.f k a0_0 a0_1 a0_2) := (fun k => yP.mono a0_0 a0_1 a0_2 k)
noncomputable def yP.fv (a0_0 : Int) (a0_1 : Int) (a0_2 : Int) : Option (Int) := lim (fun k => yP.f k a0_0 a0_1 a0_2)
theorem yP.f_lim (a0_0 : Int) (a0_1 : Int) (a0_2 : Int) : Lim (fun k => yP.f k a0_0 a0_1 a0_2) (yP.fv a0_0 a0_1 a0_2) := lim_Lim (yP.f_mono a0_0 a0_1 a0_2)
theorem yP.l0v_eq (x3 : Int) (x1568000 : Int) (x1568001 : Int) (x1568002 : Int) : yP.l0v x3 x1568000 x1568001 x1568002 = (wK.f x1568000 x1568001 x1568002 0 x3).bind fun t1568 => (if t1568 = true then (some x3) else (yP.l0v (wrap64 (x3 + 1)) x1568000 x1568001 x1568002)) := by
  refine lim_step (yP.l0_mono x3 x1568000 x1568001 x1568002) (fun k => rfl) (f := fun k => yP.l0 (k + 1) x3 x1568000 x1568001 x1568002) ?_
  simp only [yP.l0]
  repeat' first
    | (with_reducible exact yP.l0_lim _ _ _ _)
    | exact Lim.const _
    | refine Lim.ite ?_ ?_
    | refine Lim.bind ?_ (fun _ => ?_)
theorem yP.fv_eq (a0_0 : Int) (a0_1 : Int) (a0_2 : Int) : yP.fv a0_0 a0_1 a0_2 = yP.l0v 1 a0_0 a0_1 a0_2 := by
  refine lim_now (fun k => rfl) (f := fun k => yP.l0 k 1 a0_0 a0_1 a0_2) ?_
  repeat' first
    | (with_reducible exact yP.l0_lim _ _ _ _)
    | exact Lim.const _
    | refine Lim.ite ?_ ?_
    | refine Lim.bind ?_ (fun _ => ?_)
open Go.Proofs.YtomgliinndfliaaW.PrintWords
theorem yX.l0_mono (x1 : Int) (x6 : Int) (x7 : Int) (x1680000 : Int) (x1680001 : Int) (x1680002 : Int) : Mono (fun k => yX.l0 k x1 x6 x7 x1680000 x1680001 x1680002) := (fun k => (yX.mono_l k) x1 x6 x7 x1680000 x1680001 x1680002)
noncomputable def yX.l0v (x1 : Int) (x6 : Int) (x7 : Int) (x1680000 : Int) (x1680001 : Int) (x1680002 : Int) : Option (Int × Bool) := lim (fun k => yX.l0 k x1 x6 x7 x1680000 x1680001 x1680002)
theorem yX.l0_lim (x1 : Int) (x6 : Int) (x7 : Int) (x1680000 : Int) (x1680001 : Int) (x1680002 : Int) : Lim (fun k => yX.l0 k x1 x6 x7 x1680000 x1680001 x1680002) (yX.l0v x1 x6 x7 x1680000 x1680001 x1680002) := lim_Lim (yX.l0_mono x1 x6 x7 x1680000 x1680001 x1680002)
theorem yX.f_mono (a0_0 : Int) (a0_1 : Int) (a0_2 : Int) (a1 : Int) : Mono (fun k => yX.f k a0_0 a0_1 a0_2 a1) := (fun k => yX.mono a0_0 a0_1 a0_2 a1 k)
noncomputable def yX.fv (a0_0 : Int) (a0_1 : Int) (a0_2 : Int) (a1 : Int) : Option (Int × Bool) := lim (fun k => yX.f k a0_0 a0_1 a0_2 a1)
theorem yX.f_lim (a0_0 : Int) (a0_1 : Int) (a0_2 : Int) (a1 : Int) : Lim (fun k => yX.f k a0_0 a0_1 a0_2 a1) (yX.fv a0_0 a0_1 a0_2 a1) := lim_Lim (yX.f_mono a0_0 a0_1 a0_2 a1)
theorem yX.l0v_eq (x1 : Int) (x6 : Int) (x7 : Int) (x1680000 : Int) (x1680001 : Int) (x1680002 : Int) : yX.l0v x1 x6 x7 x1680000 x1680001 x1680002 = if x7 < x6 then ((wK.f x1680000 x1680001 x1680002 x1 (wrap64 (-x7))).bind fun t1681 => (if t1681 = true then (some (x7, true)) else (yX.l0v x1 x6 (wrap64 (x7 + 1)) x1680000 x1680001 x1680002))) else (some (0, false)) := by
  refine lim_step (yX.l0_mono x1 x6 x7 x1680000 x1680001 x1680002) (fun k => rfl) (f := fun k => yX.l0 (k + 1) x1 x6 x7 x1680000 x1680001 x1680002) ?_
  simp only [yX.l0]
  repeat' first
    | (with_reducible exact yX.l0_lim _ _ _ _ _ _)
    | exact Lim.const _
    | refine Lim.ite ?_ ?_
    | refine Lim.bind ?_ (fun _ => ?_)
theorem yX.fv_eq (a0_0 : Int) (a0_1 : Int) (a0_2 : Int) (a1 : Int) : yX.fv a0_0 a0_1 a0_2 a1 = (yP.fv a0_0 a0_1 a0_2).bind fun t1680 => (yX.l0v a1 t1680 0 a0_0 a0_1 a0_2) := by
  refine lim_now (fun k => rfl) (f := fun k => (yP.f k a0_0 a0_1 a0_2).bind fun t1680 => (yX.l0 k a1 t1680 0 a0_0 a0_1 a0_2)) ?_
  repeat' first
    | (with_reducible exact yX.l0_lim _ _ _ _ _ _)
    | (with_reducible exact yP.f_lim _ _ _)
    | exact Lim.const _
    | refine Lim.ite ?_ ?_
    | refine Lim.bind ?_ (fun _ => ?_)
open Go.Proofs.YtomgliinndfliaaW.PrintWords
theorem yR.l0_mono (x0 : Int) (x1 : Int) (x2 : Int) (x3 : Int) (x9 : List Int) (x10 : Int) : Mono (fun k => yR.l0 k x0 x1 x2 x3 x9 x10) := (fun k => (yR.mono_l k) x0 x1 x2 x3 x9 x10)
noncomputable def yR.l0v (x0 : Int) (x1 : Int) (x2 : Int) (x3 : Int) (x9 : List Int) (x10 : Int) : Option (List Int) := lim (fun k => yR.l0 k x0 x1 x2 x3 x9 x10)
theorem yR.l0_lim (x0 : Int) (x1 : Int) (x2 : Int) (x3 : Int) (x9 : List Int) (x10 : Int) : Lim (fun k => yR.l0 k x0 x1 x2 x3 x9 x10) (yR.l0v x0 x1 x2 x3 x9 x10) := lim_Lim (yR.l0_mono x0 x1 x2 x3 x9 x10)
theorem yR.f_mono (a0 : Int) (a1 : Int) (a2 : Int) (a3 : Int) : Mono (fun k => yR.f k a0 a1 a2 a3) := (fun k => yR.mono a0 a1 a2 a3 k)
noncomputable def yR.fv (a0 : Int) (a1 : Int) (a2 : Int) (a3 : Int) : Option (List Int) := lim (fun k => yR.f k a0 a1 a2 a3)
theorem yR.f_lim (a0 : Int) (a1 : Int) (a2 : Int) (a3 : Int) : Lim (fun k => yR.f k a0 a1 a2 a3) (yR.fv a0 a1 a2 a3) := lim_Lim (yR.f_mono a0 a1 a2 a3)
theorem yR.l0v_eq (x0 : Int) (x1 : Int) (x2 : Int) (x3 : Int) (x9 : List Int) (x10 : Int) : yR.l0v x0 x1 x2 x3 x9 x10 = if x10 < x3 then (if 0 ≤ (wrap64 (x10 - 1)) then (if (wrap64 (x10 - 1)) < (x9.length : Int) then ((wE.f (wrap64 ((wrap64 (x10 * x1)) - (wrap64 ((rd x9 (wrap64 (x10 - 1))) + x2)))) x0).bind fun t1821 => (if x9.length < 17592186044416 then (yR.l0v x0 x1 x2 x3 (x9 ++ [wrap64 ((wrap64 ((rd x9 (wrap64 (x10 - 1))) + x2)) + t1821)]) (wrap64 (x10 + 1))) else (none))) else (none)) else (none)) else (some x9) := by
  refine lim_step (yR.l0_mono x0 x1 x2 x3 x9 x10) (fun k => rfl) (f := fun k => yR.l0 (k + 1) x0 x1 x2 x3 x9 x10) ?_
  simp only [yR.l0]
  repeat' first
    | (with_reducible exact yR.l0_lim _ _ _ _ _ _)
    | exact Lim.const _
    | refine Lim.ite ?_ ?_
    | refine Lim.bind ?_ (fun _ => ?_)
theorem yR.fv_eq (a0 : Int) (a1 : Int) (a2 : Int) (a3 : Int) : yR.fv a0 a1 a2 a3 = yR.l0v a0 a1 a2 a3 (([0] : List Int)) 1 := by
  refine lim_now (fun k => rfl) (f := fun k => yR.l0 k a0 a1 a2 a3 (([0] : List Int)) 1) ?_
  repeat' first
    | (with_reducible exact yR.l0_lim _ _ _ _ _ _)
    | exact Lim.const _
    | refine Lim.ite ?_ ?_
    | refine Lim.bind ?_ (fun _ => ?_)
open Go.Proofs.YtomgliinndfliaaW.PrintWords
theorem yW.j0_mono (x1 : Int) (x26 : Bool) (x1747000 : Int) (x1747001 : Int) (x1747002 : Int) : Mono (fun k => yW.j0 k x1 x26 x1747000 x1747001 x1747002) := (fun k => (yW.mono_l k) x1 x26 x1747000 x1747001 x1747002)
noncomputable def yW.j0v (x1 : Int) (x26 : Bool) (x1747000 : Int) (x1747001 : Int) (x1747002 : Int) : Option (Int × Int × Int) := lim (fun k => yW.j0 k x1 x26 x1747000 x1747001 x1747002)
theorem yW.j0_lim (x1 : Int) (x26 : Bool) (x1747000 : Int) (x1747001 : Int) (x1747002 : Int) : Lim (fun k => yW.j0 k x1 x26 x1747000 x1747001 x1747002) (yW.j0v x1 x26 x1747000 x1747001 x1747002) := lim_Lim (yW.j0_mono x1 x26 x1747000 x1747001 x1747002)
theorem yW.f_mono (a0_0 : Int) (a0_1 : Int) (a0_2 : Int) (a0_3 : Int) (l0_4 : List Int) (a1 : Int) (a2 : Bool) : Mono (fun k => yW.f k a0_0 a0_1 a0_2 a0_3 l0_4 a1 a2) := (fun k => yW.mono a0_0 a0_1 a0_2 a0_3 l0_4 a1 a2 k)
noncomputable def yW.fv (a0_0 : Int) (a0_1 : Int) (a0_2 : Int) (a0_3 : Int) (l0_4 : List Int) (a1 : Int) (a2 : Bool) : Option (Int × Int × Int) := lim (fun k => yW.f k a0_0 a0_1 a0_2 a0_3 l0_4 a1 a2)
theorem yW.f_lim (a0_0 : Int) (a0_1 : Int) (a0_2 : Int) (a0_3 : Int) (l0_4 : List Int) (a1 : Int) (a2 : Bool) : Lim (fun k => yW.f k a0_0 a0_1 a0_2 a0_3 l0_4 a1 a2) (yW.fv a0_0 a0_1 a0_2 a0_3 l0_4 a1 a2) := lim_Lim (yW.f_mono a0_0 a0_1 a0_2 a0_3 l0_4 a1 a2)
theorem yW.j0v_eq (x1 : Int) (x26 : Bool) (x1747000 : Int) (x1747001 : Int) (x1747002 : Int) : yW.j0v x1 x26 x1747000 x1747001 x1747002 = if x26 = true then (some (0, 0, 2)) else ((yO.fv x1747000 x1747001 x1747002 x1).bind fun t1748 => (if t1748 < 0 then (some (0, 0, 4)) else ((xC.fv x1747000 x1747001 x1747002).bind fun t1749 => (some (t1749, t1748, 0))))) := by
  refine lim_step (yW.j0_mono x1 x26 x1747000 x1747001 x1747002) (fun k => rfl) (f := fun k => yW.j0 (k + 1) x1 x26 x1747000 x1747001 x1747002) ?_
  simp only [yW.j0]
  repeat' first
    | (with_reducible exact yO.f_lim _ _ _ _)
    | (with_reducible exact xC.f_lim _ _ _)
    | exact Lim.const _
    | refine Lim.ite ?_ ?_
    | refine Lim.bind ?_ (fun _ => ?_)
theorem yW.fv_eq (a0_0 : Int) (a0_1 : Int) (a0_2 : Int) (a0_3 : Int) (l0_4 : List Int) (a1 : Int) (a2 : Bool) : yW.fv a0_0 a0_1 a0_2 a0_3 l0_4 a1 a2 = (xH.fv a0_0 a0_1 a0_2 a0_3 l0_4).bind fun bt1742 => (if bt1742.2.2.2 = 0 then ((wA.f a1).bind fun t1747 => (if t1747 = true then (yW.j0v a1 (!a2) bt1742.1 bt1742.2.1 bt1742.2.2.1) else (yW.j0v a1 true bt1742.1 bt1742.2.1 bt1742.2.2.1))) else (some (0, 0, bt1742.2.2.2))) := by
  refine lim_now (fun k => rfl) (f := fun k => (xH.f k a0_0 a0_1 a0_2 a0_3 l0_4).bind fun bt1742 => (if bt1742.2.2.2 = 0 then ((wA.f a1).bind fun t1747 => (if t1747 = true then (yW.j0 k a1 (!a2) bt1742.1 bt1742.2.1 bt1742.2.2.1) else (yW.j0 k a1 true bt1742.1 bt1742.2.1 bt1742.2.2.1))) else (some (0, 0, bt1742.2.2.2)))) ?_
  repeat' first
    | (with_reducible exact yW.j0_lim _ _ _ _ _)
    | (with_reducible exact xH.f_lim _ _ _ _ _)
    | exact Lim.const _
    | refine Lim.ite ?_ ?_
    | refine Lim.bind ?_ (fun _ => ?_)
open Go.Proofs.YtomgliinndfliaaW.PrintWords
theorem yS.l0_mono (x0 : Int) (x1 : Int) (x2 : Int) (x3 : Int) (x9 : List Int) (x10 : Int) : Mono (fun k => yS.l0 k x0 x1 x2 x3 x9 x10) := (fun k => (yS.mono_l k) x0 x1 x2 x3 x9 x10)
noncomputable def yS.l0v (x0 : Int) (x1 : Int) (x2 : Int) (x3 : Int) (x9 : List Int) (x10 : Int) : Option (List Int) := lim (fun k => yS.l0 k x0 x1 x2 x3 x9 x10)
theorem yS.l0_lim (x0 : Int) (x1 : Int) (x2 : Int) (x3 : Int) (x9 : List Int) (x10 : Int) : Lim (fun k => yS.l0 k x0 x1 x2 x3 x9 x10) (yS.l0v x0 x1 x2 x3 x9 x10) := lim_Lim (yS.l0_mono x0 x1 x2 x3 x9 x10)
theorem yS.f_mono (a0 : Int) (a1 : Int) (a2 : Int) (a3 : Int) : Mono (fun k => yS.f k a0 a1 a2 a3) := (fun k => yS.mono a0 a1 a2 a3 k)
noncomputable def yS.fv (a0 : Int) (a1 : Int) (a2 : Int) (a3 : Int) : Option (List Int) := lim (fun k => yS.f k a0 a1 a2 a3)
theorem yS.f_lim (a0 : Int) (a1 : Int) (a2 : Int) (a3 : Int) : Lim (fun k => yS.f k a0 a1 a2 a3) (yS.fv a0 a1 a2 a3) := lim_Lim (yS.f_mono a0 a1 a2 a3)
theorem yS.l0v_eq (x0 : Int) (x1 : Int) (x2 : Int) (x3 : Int) (x9 : List Int) (x10 : Int) : yS.l0v x0 x1 x2 x3 x9 x10 = if x10 < x3 then (if 0 ≤ (wrap64 (x10 - 1)) then (if (wrap64 (x10 - 1)) < (x9.length : Int) then ((xU.f (wrap64 ((wrap64 (x10 * x1)) - (wrap64 ((rd x9 (wrap64 (x10 - 1))) + x2)))) x0).bind fun t1787 => (if x9.length < 17592186044416 then (yS.l0v x0 x1 x2 x3 (x9 ++ [wrap64 ((wrap64 ((rd x9 (wrap64 (x10 - 1))) + x2)) + t1787)]) (wrap64 (x10 + 1))) else (none))) else (none)) else (none)) else (some x9) := by
  refine lim_step (yS.l0_mono x0 x1 x2 x3 x9 x10) (fun k => rfl) (f := fun k => yS.l0 (k + 1) x0 x1 x2 x3 x9 x10) ?_
  simp only [yS.l0]
  repeat' first
    | (with_reducible exact yS.l0_lim _ _ _ _ _ _)
    | exact Lim.const _
    | refine Lim.ite ?_ ?_
    | refine Lim.bind ?_ (fun _ => ?_)
theorem yS.fv_eq (a0 : Int) (a1 : Int) (a2 : Int) (a3 : Int) : yS.fv a0 a1 a2 a3 = yS.l0v a0 a1 a2 a3 (([0] : List Int)) 1 := by
  refine lim_now (fun k => rfl) (f := fun k => yS.l0 k a0 a1 a2 a3 (([0] : List Int)) 1) ?_
  repeat' first
    | (with_reducible exact yS.l0_lim _ _ _ _ _ _)
    | exact Lim.const _
    | refine Lim.ite ?_ ?_
    | refine Lim.bind ?_ (fun _ => ?_)
open Go.Proofs.YtomgliinndfliaaW.PrintWords
theorem yH.j0_mono (x2 : Int) (x3 : Int) (x10 : Int) (x11 : Int) (x12 : Int) : Mono (fun k => yH.j0 k x2 x3 x10 x11 x12) := (fun k => (yH.mono_l k).1 x2 x3 x10 x11 x12)
noncomputable def yH.j0v (x2 : Int) (x3 : Int) (x10 : Int) (x11 : Int) (x12 : Int) : Option (Int × Int) := lim (fun k => yH.j0 k x2 x3 x10 x11 x12)
theorem yH.j0_lim (x2 : Int) (x3 : Int) (x10 : Int) (x11 : Int) (x12 : Int) : Lim (fun k => yH.j0 k x2 x3 x10 x11 x12) (yH.j0v x2 x3 x10 x11 x12) := lim_Lim (yH.j0_mono x2 x3 x10 x11 x12)
theorem yH.l0_mono (x2 : Int) (x3 : Int) (x13 : Int) (x35 : List Int) (x36 : Int) (x37 : Int) : Mono (fun k => yH.l0 k x2 x3 x13 x35 x36 x37) := (fun k => (yH.mono_l k).2 x2 x3 x13 x35 x36 x37)
noncomputable def yH.l0v (x2 : Int) (x3 : Int) (x13 : Int) (x35 : List Int) (x36 : Int) (x37 : Int) : Option (Int × Int) := lim (fun k => yH.l0 k x2 x3 x13 x35 x36 x37)
theorem yH.l0_lim (x2 : Int) (x3 : Int) (x13 : Int) (x35 : List Int) (x36 : Int) (x37 : Int) : Lim (fun k => yH.l0 k x2 x3 x13 x35 x36 x37) (yH.l0v x2 x3 x13 x35 x36 x37) := lim_Lim (yH.l0_mono x2 x3 x13 x35 x36 x37)
theorem yH.f_mono (a0_0 : Int) (a0_1 : Int) (a0_2 : Int) (a0_3 : Int) (l0_4 : List Int) (a1 : Int) (a2 : Int) (a3 : Int) : Mono (fun k => yH.f k a0_0 a0_1 a0_2 a0_3 l0_4 a1 a2 a3) := (fun k => yH.mono a0_0 a0_1 a0_2 a0_3 l0_4 a1 a2 a3 k)
noncomputable def yH.fv (a0_0 : Int) (a0_1 : Int) (a0_2 : Int) (a0_3 : Int) (l0_4 : List Int) (a1 : Int) (a2 : Int) (a3 : Int) : Option (Int × Int) := lim (fun k => yH.f k a0_0 a0_1 a0_2 a0_3 l0_4 a1 a2 a3)
theorem yH.f_lim (a0_0 : Int) (a0_1 : Int) (a0_2 : Int) (a0_3 : Int) (l0_4 : List Int) (a1 : Int) (a2 : Int) (a3 : Int) : Lim (fun k => yH.f k a0_0 a0_1 a0_2 a0_3 l0_4 a1 a2 a3) (yH.fv a0_0 a0_1 a0_2 a0_3 l0_4 a1 a2 a3) := lim_Lim (yH.f_mono a0_0 a0_1 a0_2 a0_3 l0_4 a1 a2 a3)
theorem yH.j0v_eq (x2 : Int) (x3 : Int) (x10 : Int) (x11 : Int) (x12 : Int) : yH.j0v x2 x3 x10 x11 x12 = if x12 = 0 then ((yR.fv x10 x11 x2 100).bind fun t1834 => (yH.l0v x2 x3 0 t1834 (t1834.length : Int) 0)) else (some (0, x12)) := by
  refine lim_step (yH.j0_mono x2 x3 x10 x11 x12) (fun k => rfl) (f := fun k => yH.j0 (k + 1) x2 x3 x10 x11 x12) ?_
  simp only [yH.j0]
  repeat' first
    | (with_reducible exact yH.l0_lim _ _ _ _ _ _)
    | (with_reducible exact yR.f_lim _ _ _ _)
    | exact Lim.const _
    | refine Lim.ite ?_ ?_
    | refine Lim.bind ?_ (fun _ => ?_)
theorem yH.l0v_eq (x2 : Int) (x3 : Int) (x13 : Int) (x35 : List Int) (x36 : Int) (x37 : Int) : yH.l0v x2 x3 x13 x35 x36 x37 = if x37 < x36 then (if 0 ≤ x37 then (if x37 < (x35.length : Int) then (if (wrap64 ((rd x35 x37) + x2)) ≤ x3 then (yH.l0v x2 x3 (wrap64 (x13 + 1)) x35 x36 (wrap64 (x37 + 1))) else (yH.l0v x2 x3 x13 x35 x36 (wrap64 (x37 + 1)))) else (none)) else (none)) else (some (x13, 0)) := by
  refine lim_step (yH.l0_mono x2 x3 x13 x35 x36 x37) (fun k => rfl) (f := fun k => yH.l0 (k + 1) x2 x3 x13 x35 x36 x37) ?_
  simp only [yH.l0]
  repeat' first
    | (with_reducible exact yH.l0_lim _ _ _ _ _ _)
    | exact Lim.const _
    | refine Lim.ite ?_ ?_
    | refine Lim.bind ?_ (fun _ => ?_)
theorem yH.fv_eq (a0_0 : Int) (a0_1 : Int) (a0_2 : Int) (a0_3 : Int) (l0_4 : List Int) (a1 : Int) (a2 : Int) (a3 : Int) : yH.fv a0_0 a0_1 a0_2 a0_3 l0_4 a1 a2 a3 = (wA.f a2).bind fun t1826 => (if t1826 = true then ((xM.f a3 0 100000).bind fun t1827 => ((yW.fv a0_0 a0_1 a0_2 a0_3 l0_4 a1 t1827).bind fun bt1828 => (yH.j0v a2 a3 bt1828.1 bt1828.2.1 bt1828.2.2))) else ((yW.fv a0_0 a0_1 a0_2 a0_3 l0_4 a1 false).bind fun bt1831 => (yH.j0v a2 a3 bt1831.1 bt1831.2.1 bt1831.2.2))) := by
  refine lim_now (fun k => rfl) (f := fun k => yH.f k a0_0 a0_1 a0_2 a0_3 l0_4 a1 a2 a3) ?_
  simp only [yH.f]
  repeat' first
    | (with_reducible exact yH.j0_lim _ _ _ _ _)
    | (with_reducible exact yW.f_lim _ _ _ _ _ _ _)
    | exact Lim.const _
    | refine Lim.ite ?_ ?_
    | refine Lim.bind ?_ (fun _ => ?_)
open Go.Proofs.YtomgliinndfliaaW.PrintWords
theorem yN.l0_mono (x2 : Int) (x3 : Int) (x14 : List Int) (x15 : Int) : Mono (fun k => yN.l0 k x2 x3 x14 x15) := (fun k => (yN.mono_l k) x2 x3 x14 x15)
noncomputable def yN.l0v (x2 : Int) (x3 : Int) (x14 : List Int) (x15 : Int) : Option (Int × Int) := lim (fun k => yN.l0 k x2 x3 x14 x15)
theorem yN.l0_lim (x2 : Int) (x3 : Int) (x14 : List Int) (x15 : Int) : Lim (fun k => yN.l0 k x2 x3 x14 x15) (yN.l0v x2 x3 x14 x15) := lim_Lim (yN.l0_mono x2 x3 x14 x15)
theorem yN.f_mono (a0_0 : Int) (a0_1 : Int) (a0_2 : Int) (a0_3 : Int) (l0_4 : List Int) (a1 : Int) (a2 : Int) (a3 : Int) : Mono (fun k => yN.f k a0_0 a0_1 a0_2 a0_3 l0_4 a1 a2 a3) := (fun k => yN.mono a0_0 a0_1 a0_2 a0_3 l0_4 a1 a2 a3 k)
noncomputable def yN.fv (a0_0 : Int) (a0_1 : Int) (a0_2 : Int) (a0_3 : Int) (l0_4 : List Int) (a1 : Int) (a2 : Int) (a3 : Int) : Option (Int × Int) := lim (fun k => yN.f k a0_0 a0_1 a0_2 a0_3 l0_4 a1 a2 a3)
theorem yN.f_lim (a0_0 : Int) (a0_1 : Int) (a0_2 : Int) (a0_3 : Int) (l0_4 : List Int) (a1 : Int) (a2 : Int) (a3 : Int) : Lim (fun k => yN.f k a0_0 a0_1 a0_2 a0_3 l0_4 a1 a2 a3) (yN.fv a0_0 a0_1 a0_2 a0_3 l0_4 a1 a2 a3) := lim_Lim (yN.f_mono a0_0 a0_1 a0_2 a0_3 l0_4 a1 a2 a3)
theorem yN.l0v_eq (x2 : Int) (x3 : Int) (x14 : List Int) (x15 : Int) : yN.l0v x2 x3 x14 x15 = if x15 < 100 then (if 0 ≤ x15 then (if x15 < (x14.length : Int) then (if (wrap64 ((rd x14 x15) + x2)) ≤ x3 then (yN.l0v x2 x3 x14 (wrap64 (x15 + 1))) else (some (x15, 0))) else (none)) else (none)) else (some (x15, 0)) := by
  refine lim_step (yN.l0_mono x2 x3 x14 x15) (fun k => rfl) (f := fun k => yN.l0 (k + 1) x2 x3 x14 x15) ?_
  simp only [yN.l0]
  repeat' first
    | (with_reducible exact yN.l0_lim _ _ _ _)
    | exact Lim.const _
    | refine Lim.ite ?_ ?_
    | refine Lim.bind ?_ (fun _ => ?_)
theorem yN.fv_eq (a0_0 : Int) (a0_1 : Int) (a0_2 : Int) (a0_3 : Int) (l0_4 : List Int) (a1 : Int) (a2 : Int) (a3 : Int) : yN.fv a0_0 a0_1 a0_2 a0_3 l0_4 a1 a2 a3 = (xG.f a1 1 1000).bind fun t1792 => (if t1792 = true then ((xG.f a2 1 1000).bind fun t1793 => (if t1793 = true then ((xG.f a3 0 100000).bind fun t1794 => ((yQ.fv a0_0 a0_1 a0_2 a0_3 l0_4 t1794).bind fun bt1795 => (if bt1795.2.2.2 = 0 then ((yX.fv bt1795.1 bt1795.2.1 bt1795.2.2.1 a1).bind fun bt1800 => (if bt1800.2 = true then ((yP.fv bt1795.1 bt1795.2.1 bt1795.2.2.1).bind fun t1802 => ((yS.fv t1802 bt1800.1 a2 100).bind fun t1803 => (yN.l0v a2 a3 t1803 0))) else (some (0, 4)))) else (some (0, bt1795.2.2.2))))) else ((yQ.fv a0_0 a0_1 a0_2 a0_3 l0_4 false).bind fun bt1807 => (if bt1807.2.2.2 = 0 then (none) else (some (0, bt1807.2.2.2)))))) else ((yQ.fv a0_0 a0_1 a0_2 a0_3 l0_4 false).bind fun bt1812 => (if bt1812.2.2.2 = 0 then (none) else (some (0, bt1812.2.2.2))))) := by
  refine lim_now (fun k => rfl) (f := fun k => yN.f k a0_0 a0_1 a0_2 a0_3 l0_4 a1 a2 a3) ?_
  simp only [yN.f]
  repeat' first
    | (with_reducible exact yN.l0_lim _ _ _ _)
    | (with_reducible exact yQ.f_lim _ _ _ _ _ _)
    | (with_reducible exact yX.f_lim _ _ _ _)
    | (with_reducible exact yP.f_lim _ _ _)
    | (with_reducible exact yS.f_lim _ _ _ _)
    | exact Lim.const _
    | refine Lim.ite ?_ ?_
    | refine Lim.bind ?_ (fun _ => ?_)
open Go.Proofs.YtomgliinndfliaaW.PrintWords
theorem xE.f_mono (a0_0 : Int) (a0_1 : Int) (a0_2 : Int) (a0_3 : Int) (l0_4 : List Int) (a1 : Int) (a2 : Int) (a3 : Int) : Mono (fun k => xE.f k a0_0 a0_1 a0_2 a0_3 l0_4 a1 a2 a3) := (fun k => xE.mono a0_0 a0_1 a0_2 a0_3 l0_4 a1 a2 a3 k)
noncomputable def xE.fv (a0_0 : Int) (a0_1 : Int) (a0_2 : Int) (a0_3 : Int) (l0_4 : List Int) (a1 : Int) (a2 : Int) (a3 : Int) : Option (Bool) := lim (fun k => xE.f k a0_0 a0_1 a0_2 a0_3 l0_4 a1 a2 a3)
theorem xE.f_lim (a0_0 : Int) (a0_1 : Int) (a0_2 : Int) (a0_3 : Int) (l0_4 : List Int) (a1 : Int) (a2 : Int) (a3 : Int) : Lim (fun k => xE.f k a0_0 a0_1 a0_2 a0_3 l0_4 a1 a2 a3) (xE.fv a0_0 a0_1 a0_2 a0_3 l0_4 a1 a2 a3) := lim_Lim (xE.f_mono a0_0 a0_1 a0_2 a0_3 l0_4 a1 a2 a3)
theorem xE.fv_eq (a0_0 : Int) (a0_1 : Int) (a0_2 : Int) (a0_3 : Int) (l0_4 : List Int) (a1 : Int) (a2 : Int) (a3 : Int) : xE.fv a0_0 a0_1 a0_2 a0_3 l0_4 a1 a2 a3 = (wJ.f a0_0 a0_1 a0_2 a0_3 l0_4 1048576).bind fun t1839 => (if t1839 < 0 then (some true) else ((xF.fv a0_0 a0_1 a0_2 a0_3 l0_4).bind fun bt1840 => ((yN.fv bt1840.1 bt1840.2.1 bt1840.2.2.1 bt1840.2.2.2.1 bt1840.2.2.2.2 a1 a2 a3).bind fun bt1847 => ((xF.fv a0_0 a0_1 a0_2 a0_3 l0_4).bind fun bt1849 => ((yH.fv bt1849.1 bt1849.2.1 bt1849.2.2.1 bt1849.2.2.2.1 bt1849.2.2.2.2 a1 a2 a3).bind fun bt1857 => (if bt1857.1 = bt1847.1 then (if bt1857.2 = bt1847.2 then ((xF.fv a0_0 a0_1 a0_2 a0_3 l0_4).bind fun bt1859 => ((xJ.fv bt1849.1 bt1849.2.1 bt1849.2.2.1 bt1849.2.2.2.1 bt1849.2.2.2.2 bt1859.1 bt1859.2.1 bt1859.2.2.1 bt1859.2.2.2.1 bt1859.2.2.2.2).bind fun t1866 => (if t1866 = true then (some true) else (none)))) else (none)) else (none))))))) := by
  refine lim_now (fun k => rfl) (f := fun k => xE.f k a0_0 a0_1 a0_2 a0_3 l0_4 a1 a2 a3) ?_
  simp only [xE.f]
  repeat' first
    | (with_reducible exact yH.f_lim _ _ _ _ _ _ _ _)
    | (with_reducible exact xJ.f_lim _ _ _ _ _ _ _ _ _ _)
    | (with_reducible exact xF.f_lim _ _ _ _ _)
    | (with_reducible exact yN.f_lim _ _ _ _ _ _ _ _)
    | exact Lim.const _
    | refine Lim.ite ?_ ?_
    | refine Lim.bind ?_ (fun _ => ?_)
end Go.Proofs.Ytomgliinndfliaa.X
