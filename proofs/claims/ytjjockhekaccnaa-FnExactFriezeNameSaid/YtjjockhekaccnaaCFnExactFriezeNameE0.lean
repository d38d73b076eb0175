/- Part of the proof of the law FnExactFriezeName: equations of the plain functions. No condition of its own. -/
import Derived.Test.YtjjockhekaccnaaCFnExactFriezeNameD0
namespace Go.Proofs.Ytjjockhekaccnaa.X
open Go.RowKit Go.Proofs.YtjjockhekaccnaaW.PrintWords Go.Proofs.YtjjockhekaccnaaW.PrintLast Go.Proofs.YtjjockhekaccnaaW.PrintMore
attribute [local go_sem] max2_int min2_int max_two min_two max_three min_three max_four min_four   -- for this text's walks alone
set_option linter.unusedVariables false
set_option linter.unusedSimpArgs false
open Go.Proofs.YtjjockhekaccnaaW.PrintWords
theorem yI.l0_mono (x0 : List Int) (x1 : List Int) (x5 : Int) : Mono (fun k => yI.l0 k x0 x1 x5) := (fun k => (yI.mono_l k) x0 x1 x5)
noncomputable def yI.l0v (x0 : List Int) (x1 : List Int) (x5 : Int) : Option (Bool) := lim (fun k => yI.l0 k x0 x1 x5)
theorem yI.l0_lim (x0 : List Int) (x1 : List Int) (x5 : Int) : Lim (fun k => yI.l0 k x0 x1 x5) (yI.l0v x0 x1 x5) := lim_Lim (yI.l0_mono x0 x1 x5)
theorem yI.f_mono (l0 : List Int) (l1 : List Int) : Mono (fun k => yI.f k l0 l1) := (fun k => yI.mono l0 l1 k)
noncomputable def yI.fv (l0 : List Int) (l1 : List Int) : Option (Bool) := lim (fun k => yI.f k l0 l1)
theorem yI.f_lim (l0 : List Int) (l1 : List Int) : Lim (fun k => yI.f k l0 l1) (yI.fv l0 l1) := lim_Lim (yI.f_mono l0 l1)
theorem yI.l0v_eq (x0 : List Int) (x1 : List Int) (x5 : Int) : yI.l0v x0 x1 x5 = if x5 < (x0.length : Int) then (if 0 ≤ x5 then (if x5 < (x1.length : Int) then (if (rd x0 x5) = (rd x1 x5) then (yI.l0v x0 x1 (wrap64 (x5 + 1))) else (some false)) else (none)) else (none)) else (some true) := by
  refine lim_step (yI.l0_mono x0 x1 x5) (fun k => rfl) (f := fun k => yI.l0 (k + 1) x0 x1 x5) ?_
  simp only [yI.l0]
  repeat' first
    | (with_reducible exact yI.l0_lim _ _ _)
    | exact Lim.const _
    | refine Lim.ite ?_ ?_
    | refine Lim.bind ?_ (fun _ => ?_)
theorem yI.fv_eq (l0 : List Int) (l1 : List Int) : yI.fv l0 l1 = if (l0.length : Int) = (l1.length : Int) then (yI.l0v l0 l1 0) else (some false) := by
  refine lim_now (fun k => rfl) (f := fun k => if (l0.length : Int) = (l1.length : Int) then (yI.l0 k l0 l1 0) else (some false)) ?_
  repeat' first
    | (with_reducible exact yI.l0_lim _ _ _)
    | exact Lim.const _
    | refine Lim.ite ?_ ?_
    | refine Lim.bind ?_ (fun _ => ?_)
open Go.Proofs.YtjjockhekaccnaaW.PrintWords
theorem yG.l0_mono (x0 : List Int) (x1 : Int) (x5 : Int) : Mono (fun k => yG.l0 k x0 x1 x5) := (fun k => (yG.mono_l k) x0 x1 x5)
noncomputable def yG.l0v (x0 : List Int) (x1 : Int) (x5 : Int) : Option (Int) := lim (fun k => yG.l0 k x0 x1 x5)
theorem yG.l0_lim (x0 : List Int) (x1 : Int) (x5 : Int) : Lim (fun k => yG.l0 k x0 x1 x5) (yG.l0v x0 x1 x5) := lim_Lim (yG.l0_mono x0 x1 x5)
theorem yG.f_mono (l0 : List Int) (a1 : Int) : Mono (fun k => yG.f k l0 a1) := (fun k => yG.mono l0 a1 k)
noncomputable def yG.fv (l0 : List Int) (a1 : Int) : Option (Int) := lim (fun k => yG.f k l0 a1)
theorem yG.f_lim (l0 : List Int) (a1 : Int) : Lim (fun k => yG.f k l0 a1) (yG.fv l0 a1) := lim_Lim (yG.f_mono l0 a1)
theorem yG.l0v_eq (x0 : List Int) (x1 : Int) (x5 : Int) : yG.l0v x0 x1 x5 = if x5 < (x0.length : Int) then (if 0 ≤ x5 then (if (rd x0 x5) = x1 then (yG.l0v x0 (wrap64 (x1 + 1)) (wrap64 (x5 + 1))) else (some (-1))) else (none)) else (some x1) := by
  refine lim_step (yG.l0_mono x0 x1 x5) (fun k => rfl) (f := fun k => yG.l0 (k + 1) x0 x1 x5) ?_
  simp only [yG.l0]
  repeat' first
    | (with_reducible exact yG.l0_lim _ _ _)
    | exact Lim.const _
    | refine Lim.ite ?_ ?_
    | refine Lim.bind ?_ (fun _ => ?_)
theorem yG.fv_eq (l0 : List Int) (a1 : Int) : yG.fv l0 a1 = yG.l0v l0 a1 0 := by
  refine lim_now (fun k => rfl) (f := fun k => yG.l0 k l0 a1 0) ?_
  repeat' first
    | (with_reducible exact yG.l0_lim _ _ _)
    | exact Lim.const _
    | refine Lim.ite ?_ ?_
    | refine Lim.bind ?_ (fun _ => ?_)
open Go.Proofs.YtjjockhekaccnaaW.PrintWords
theorem yF.l0_mono (x0 : List Int) (x1 : Int) (x5 : Int) : Mono (fun k => yF.l0 k x0 x1 x5) := (fun k => (yF.mono_l k) x0 x1 x5)
noncomputable def yF.l0v (x0 : List Int) (x1 : Int) (x5 : Int) : Option (Int × List Int) := lim (fun k => yF.l0 k x0 x1 x5)
theorem yF.l0_lim (x0 : List Int) (x1 : Int) (x5 : Int) : Lim (fun k => yF.l0 k x0 x1 x5) (yF.l0v x0 x1 x5) := lim_Lim (yF.l0_mono x0 x1 x5)
theorem yF.f_mono (l0 : List Int) (a1 : Int) : Mono (fun k => yF.f k l0 a1) := (fun k => yF.mono l0 a1 k)
noncomputable def yF.fv (l0 : List Int) (a1 : Int) : Option (Int × List Int) := lim (fun k => yF.f k l0 a1)
theorem yF.f_lim (l0 : List Int) (a1 : Int) : Lim (fun k => yF.f k l0 a1) (yF.fv l0 a1) := lim_Lim (yF.f_mono l0 a1)
theorem yF.l0v_eq (x0 : List Int) (x1 : Int) (x5 : Int) : yF.l0v x0 x1 x5 = if x5 < (x0.length : Int) then (if 0 ≤ x5 then (yF.l0v (x0.set (x5 : Int).toNat x1) (wrap64 (x1 + 1)) (wrap64 (x5 + 1))) else (none)) else (some (x1, x0)) := by
  refine lim_step (yF.l0_mono x0 x1 x5) (fun k => rfl) (f := fun k => yF.l0 (k + 1) x0 x1 x5) ?_
  simp only [yF.l0]
  repeat' first
    | (with_reducible exact yF.l0_lim _ _ _)
    | exact Lim.const _
    | refine Lim.ite ?_ ?_
    | refine Lim.bind ?_ (fun _ => ?_)
theorem yF.fv_eq (l0 : List Int) (a1 : Int) : yF.fv l0 a1 = yF.l0v l0 a1 0 := by
  refine lim_now (fun k => rfl) (f := fun k => yF.l0 k l0 a1 0) ?_
  repeat' first
    | (with_reducible exact yF.l0_lim _ _ _)
    | exact Lim.const _
    | refine Lim.ite ?_ ?_
    | refine Lim.bind ?_ (fun _ => ?_)
open Go.Proofs.YtjjockhekaccnaaW.PrintWords
theorem yH.l0_mono (x0 : List Int) (x3 : List Int) (x4 : Int) : Mono (fun k => yH.l0 k x0 x3 x4) := (fun k => (yH.mono_l k) x0 x3 x4)
noncomputable def yH.l0v (x0 : List Int) (x3 : List Int) (x4 : Int) : Option (List Int) := lim (fun k => yH.l0 k x0 x3 x4)
theorem yH.l0_lim (x0 : List Int) (x3 : List Int) (x4 : Int) : Lim (fun k => yH.l0 k x0 x3 x4) (yH.l0v x0 x3 x4) := lim_Lim (yH.l0_mono x0 x3 x4)
theorem yH.f_mono (l0 : List Int) : Mono (fun k => yH.f k l0) := (fun k => yH.mono l0 k)
noncomputable def yH.fv (l0 : List Int) : Option (List Int) := lim (fun k => yH.f k l0)
theorem yH.f_lim (l0 : List Int) : Lim (fun k => yH.f k l0) (yH.fv l0) := lim_Lim (yH.f_mono l0)
theorem yH.l0v_eq (x0 : List Int) (x3 : List Int) (x4 : Int) : yH.l0v x0 x3 x4 = if x4 < (x0.length : Int) then (if 0 ≤ x4 then (if x4 < (x3.length : Int) then (yH.l0v x0 (x3.set (x4 : Int).toNat (rd x0 x4)) (wrap64 (x4 + 1))) else (none)) else (none)) else (some x3) := by
  refine lim_step (yH.l0_mono x0 x3 x4) (fun k => rfl) (f := fun k => yH.l0 (k + 1) x0 x3 x4) ?_
  simp only [yH.l0]
  repeat' first
    | (with_reducible exact yH.l0_lim _ _ _)
    | exact Lim.const _
    | refine Lim.ite ?_ ?_
    | refine Lim.bind ?_ (fun _ => ?_)
theorem yH.fv_eq (l0 : List Int) : yH.fv l0 = if 0 ≤ (l0.length : Int) then (if ((l0.length : Int) : Int).toNat ≤ 35184372088832 then (yH.l0v l0 (List.replicate ((l0.length : Int) : Int).toNat 0) 0) else (none)) else (none) := by
  refine lim_now (fun k => rfl) (f := fun k => if 0 ≤ (l0.length : Int) then (if ((l0.length : Int) : Int).toNat ≤ 35184372088832 then (yH.l0 k l0 (List.replicate ((l0.length : Int) : Int).toNat 0) 0) else (none)) else (none)) ?_
  repeat' first
    | (with_reducible exact yH.l0_lim _ _ _)
    | exact Lim.const _
    | refine Lim.ite ?_ ?_
    | refine Lim.bind ?_ (fun _ => ?_)
open Go.Proofs.YtjjockhekaccnaaW.PrintWords
theorem zZ.l0_mono (x10 : Int) (x11 : Int) (x150000 : Int) (x150001 : Int) (x150002 : List Int) (x151000 : Bool) (x151001 : Bool) (x151002 : Int) : Mono (fun k => zZ.l0 k x10 x11 x150000 x150001 x150002 x151000 x151001 x151002) := (fun k => (zZ.mono_l k).1 x10 x11 x150000 x150001 x150002 x151000 x151001 x151002)
noncomputable def zZ.l0v (x10 : Int) (x11 : Int) (x150000 : Int) (x150001 : Int) (x150002 : List Int) (x151000 : Bool) (x151001 : Bool) (x151002 : Int) : Option (Bool) := lim (fun k => zZ.l0 k x10 x11 x150000 x150001 x150002 x151000 x151001 x151002)
theorem zZ.l0_lim (x10 : Int) (x11 : Int) (x150000 : Int) (x150001 : Int) (x150002 : List Int) (x151000 : Bool) (x151001 : Bool) (x151002 : Int) : Lim (fun k => zZ.l0 k x10 x11 x150000 x150001 x150002 x151000 x151001 x151002) (zZ.l0v x10 x11 x150000 x150001 x150002 x151000 x151001 x151002) := lim_Lim (zZ.l0_mono x10 x11 x150000 x150001 x150002 x151000 x151001 x151002)
theorem zZ.l1_mono (x5 : Int) (x10 : Int) (x11 : Int) (x15 : Int) (x16 : Int) (x150000 : Int) (x150001 : Int) (x150002 : List Int) (x151000 : Bool) (x151001 : Bool) (x151002 : Int) : Mono (fun k => zZ.l1 k x5 x10 x11 x15 x16 x150000 x150001 x150002 x151000 x151001 x151002) := (fun k => (zZ.mono_l k).2 x5 x10 x11 x15 x16 x150000 x150001 x150002 x151000 x151001 x151002)
noncomputable def zZ.l1v (x5 : Int) (x10 : Int) (x11 : Int) (x15 : Int) (x16 : Int) (x150000 : Int) (x150001 : Int) (x150002 : List Int) (x151000 : Bool) (x151001 : Bool) (x151002 : Int) : Option (Bool) := lim (fun k => zZ.l1 k x5 x10 x11 x15 x16 x150000 x150001 x150002 x151000 x151001 x151002)
theorem zZ.l1_lim (x5 : Int) (x10 : Int) (x11 : Int) (x15 : Int) (x16 : Int) (x150000 : Int) (x150001 : Int) (x150002 : List Int) (x151000 : Bool) (x151001 : Bool) (x151002 : Int) : Lim (fun k => zZ.l1 k x5 x10 x11 x15 x16 x150000 x150001 x150002 x151000 x151001 x151002) (zZ.l1v x5 x10 x11 x15 x16 x150000 x150001 x150002 x151000 x151001 x151002) := lim_Lim (zZ.l1_mono x5 x10 x11 x15 x16 x150000 x150001 x150002 x151000 x151001 x151002)
theorem zZ.f_mono (a0_0 : Int) (a0_1 : Int) (l0_2 : List Int) (a1_0 : Bool) (a1_1 : Bool) (a1_2 : Int) : Mono (fun k => zZ.f k a0_0 a0_1 l0_2 a1_0 a1_1 a1_2) := (fun k => zZ.mono a0_0 a0_1 l0_2 a1_0 a1_1 a1_2 k)
noncomputable def zZ.fv (a0_0 : Int) (a0_1 : Int) (l0_2 : List Int) (a1_0 : Bool) (a1_1 : Bool) (a1_2 : Int) : Option (Bool) := lim (fun k => zZ.f k a0_0 a0_1 l0_2 a1_0 a1_1 a1_2)
theorem zZ.f_lim (a0_0 : Int) (a0_1 : Int) (l0_2 : List Int) (a1_0 : Bool) (a1_1 : Bool) (a1_2 : Int) : Lim (fun k => zZ.f k a0_0 a0_1 l0_2 a1_0 a1_1 a1_2) (zZ.fv a0_0 a0_1 l0_2 a1_0 a1_1 a1_2) := lim_Lim (zZ.f_mono a0_0 a0_1 l0_2 a1_0 a1_1 a1_2)
theorem zZ.l0v_eq (x10 : Int) (x11 : Int) (x150000 : Int) (x150001 : Int) (x150002 : List Int) (x151000 : Bool) (x151001 : Bool) (x151002 : Int) : zZ.l0v x10 x11 x150000 x150001 x150002 x151000 x151001 x151002 = if x11 < x10 then (zZ.l1v x11 x10 x11 x150001 0 x150000 x150001 x150002 x151000 x151001 x151002) else (some true) := by
  refine lim_step (zZ.l0_mono x10 x11 x150000 x150001 x150002 x151000 x151001 x151002) (fun k => rfl) (f := fun k => zZ.l0 (k + 1) x10 x11 x150000 x150001 x150002 x151000 x151001 x151002) ?_
  simp only [zZ.l0]
  repeat' first
    | (with_reducible exact zZ.l1_lim _ _ _ _ _ _ _ _ _ _ _)
    | exact Lim.const _
    | refine Lim.ite ?_ ?_
    | refine Lim.bind ?_ (fun _ => ?_)
theorem zZ.l1v_eq (x5 : Int) (x10 : Int) (x11 : Int) (x15 : Int) (x16 : Int) (x150000 : Int) (x150001 : Int) (x150002 : List Int) (x151000 : Bool) (x151001 : Bool) (x151002 : Int) : zZ.l1v x5 x10 x11 x15 x16 x150000 x150001 x150002 x151000 x151001 x151002 = if x16 < x15 then ((yV.f x150000 x150001 x150002 x151000 x151001 x151002 x16 x5).bind fun bt151 => ((yQ.f x150000 x150001 x150002 bt151.1 bt151.2).bind fun t153 => ((yQ.f x150000 x150001 x150002 x16 x5).bind fun t154 => (if t153 = t154 then (zZ.l1v x5 x10 x11 x15 (wrap64 (x16 + 1)) x150000 x150001 x150002 x151000 x151001 x151002) else (some false))))) else (zZ.l0v x10 (wrap64 (x11 + 1)) x150000 x150001 x150002 x151000 x151001 x151002) := by
  refine lim_step (zZ.l1_mono x5 x10 x11 x15 x16 x150000 x150001 x150002 x151000 x151001 x151002) (fun k => rfl) (f := fun k => zZ.l1 (k + 1) x5 x10 x11 x15 x16 x150000 x150001 x150002 x151000 x151001 x151002) ?_
  simp only [zZ.l1]
  repeat' first
    | (with_reducible exact zZ.l0_lim _ _ _ _ _ _ _ _)
    | (with_reducible exact zZ.l1_lim _ _ _ _ _ _ _ _ _ _ _)
    | exact Lim.const _
    | refine Lim.ite ?_ ?_
    | refine Lim.bind ?_ (fun _ => ?_)
theorem zZ.fv_eq (a0_0 : Int) (a0_1 : Int) (l0_2 : List Int) (a1_0 : Bool) (a1_1 : Bool) (a1_2 : Int) : zZ.fv a0_0 a0_1 l0_2 a1_0 a1_1 a1_2 = zZ.l0v a0_0 0 a0_0 a0_1 l0_2 a1_0 a1_1 a1_2 := by
  refine lim_now (fun k => rfl) (f := fun k => zZ.l0 k a0_0 0 a0_0 a0_1 l0_2 a1_0 a1_1 a1_2) ?_
  repeat' first
    | (with_reducible exact zZ.l0_lim _ _ _ _ _ _ _ _)
    | exact Lim.const _
    | refine Lim.ite ?_ ?_
    | refine Lim.bind ?_ (fun _ => ?_)
open Go.Proofs.YtjjockhekaccnaaW.PrintWords
theorem yC.l0_mono (x3 : Int) (x156000 : Int) (x156001 : Int) (x156002 : List Int) : Mono (fun k => yC.l0 k x3 x156000 x156001 x156002) := (fun k => (yC.mono_l k) x3 x156000 x156001 x156002)
noncomputable def yC.l0v (x3 : Int) (x156000 : Int) (x156001 : Int) (x156002 : List Int) : Option (Int) := lim (fun k => yC.l0 k x3 x156000 x156001 x156002)
theorem yC.l0_lim (x3 : Int) (x156000 : Int) (x156001 : Int) (x156002 : List Int) : Lim (fun k => yC.l0 k x3 x156000 x156001 x156002) (yC.l0v x3 x156000 x156001 x156002) := lim_Lim (yC.l0_mono x3 x156000 x156001 x156002)
theorem yC.f_mono (a0_0 : Int) (a0_1 : Int) (l0_2 : List Int) : Mono (fun k => yC.f k a0_0 a0_1 l0_2) := (fun k => yC.mono a0_0 a0_1 l0_2 k)
noncomputable def yC.fv (a0_0 : Int) (a0_1 : Int) (l0_2 : List Int) : Option (Int) := lim (fun k => yC.f k a0_0 a0_1 l0_2)
theorem yC.f_lim (a0_0 : Int) (a0_1 : Int) (l0_2 : List Int) : Lim (fun k => yC.f k a0_0 a0_1 l0_2) (yC.fv a0_0 a0_1 l0_2) := lim_Lim (yC.f_mono a0_0 a0_1 l0_2)
theorem yC.l0v_eq (x3 : Int) (x156000 : Int) (x156001 : Int) (x156002 : List Int) : yC.l0v x3 x156000 x156001 x156002 = (zZ.fv x156000 x156001 x156002 false false x3).bind fun t156 => (if t156 = true then (some x3) else (yC.l0v (wrap64 (x3 + 1)) x156000 x156001 x156002)) := by
  refine lim_step (yC.l0_mono x3 x156000 x156001 x156002) (fun k => rfl) (f := fun k => yC.l0 (k + 1) x3 x156000 x156001 x156002) ?_
  simp only [yC.l0]
  repeat' first
    | (with_reducible exact zZ.f_lim _ _ _ _ _ _)
    | (with_reducible exact yC.l0_lim _ _ _ _)
    | exact Lim.const _
    | refine Lim.ite ?_ ?_
    | refine Lim.bind ?_ (fun _ => ?_)
theorem yC.fv_eq (a0_0 : Int) (a0_1 : Int) (l0_2 : List Int) : yC.fv a0_0 a0_1 l0_2 = yC.l0v 1 a0_0 a0_1 l0_2 := by
  refine lim_now (fun k => rfl) (f := fun k => yC.l0 k 1 a0_0 a0_1 l0_2) ?_
  repeat' first
    | (with_reducible exact yC.l0_lim _ _ _ _)
    | exact Lim.const _
    | refine Lim.ite ?_ ?_
    | refine Lim.bind ?_ (fun _ => ?_)
open Go.Proofs.YtjjockhekaccnaaW.PrintWords
theorem yD.l0_mono (x0 : List Int) (x1 : Int) (x2 : Int) (x3 : Int) (x9 : Int) : Mono (fun k => yD.l0 k x0 x1 x2 x3 x9) := (fun k => (yD.mono_l k) x0 x1 x2 x3 x9)
noncomputable def yD.l0v (x0 : List Int) (x1 : Int) (x2 : Int) (x3 : Int) (x9 : Int) : Option (Bool) := lim (fun k => yD.l0 k x0 x1 x2 x3 x9)
theorem yD.l0_lim (x0 : List Int) (x1 : Int) (x2 : Int) (x3 : Int) (x9 : Int) : Lim (fun k => yD.l0 k x0 x1 x2 x3 x9) (yD.l0v x0 x1 x2 x3 x9) := lim_Lim (yD.l0_mono x0 x1 x2 x3 x9)
theorem yD.f_mono (l0 : List Int) (a1 : Int) (a2 : Int) (a3 : Int) : Mono (fun k => yD.f k l0 a1 a2 a3) := (fun k => yD.mono l0 a1 a2 a3 k)
noncomputable def yD.fv (l0 : List Int) (a1 : Int) (a2 : Int) (a3 : Int) : Option (Bool) := lim (fun k => yD.f k l0 a1 a2 a3)
theorem yD.f_lim (l0 : List Int) (a1 : Int) (a2 : Int) (a3 : Int) : Lim (fun k => yD.f k l0 a1 a2 a3) (yD.fv l0 a1 a2 a3) := lim_Lim (yD.f_mono l0 a1 a2 a3)
theorem yD.l0v_eq (x0 : List Int) (x1 : Int) (x2 : Int) (x3 : Int) (x9 : Int) : yD.l0v x0 x1 x2 x3 x9 = if x9 < (x0.length : Int) then (if 0 ≤ x9 then ((yP.f (rd x0 x9) x2 x3).bind fun t104 => (if t104 = true then (yD.l0v x0 x1 x2 x3 (wrap64 (x9 + 1))) else (some false))) else (none)) else (some (decide ((x0.length : Int) ≤ x1))) := by
  refine lim_step (yD.l0_mono x0 x1 x2 x3 x9) (fun k => rfl) (f := fun k => yD.l0 (k + 1) x0 x1 x2 x3 x9) ?_
  simp only [yD.l0]
  repeat' first
    | (with_reducible exact yD.l0_lim _ _ _ _ _)
    | exact Lim.const _
    | refine Lim.ite ?_ ?_
    | refine Lim.bind ?_ (fun _ => ?_)
theorem yD.fv_eq (l0 : List Int) (a1 : Int) (a2 : Int) (a3 : Int) : yD.fv l0 a1 a2 a3 = yD.l0v l0 a1 a2 a3 0 := by
  refine lim_now (fun k => rfl) (f := fun k => yD.l0 k l0 a1 a2 a3 0) ?_
  repeat' first
    | (with_reducible exact yD.l0_lim _ _ _ _ _)
    | exact Lim.const _
    | refine Lim.ite ?_ ?_
    | refine Lim.bind ?_ (fun _ => ?_)
open Go.Proofs.YtjjockhekaccnaaW.PrintWords
theorem yM.f_mono (a0_0 : Int) (a0_1 : Int) (l0_2 : List Int) : Mono (fun k => yM.f k a0_0 a0_1 l0_2) := (fun k => yM.mono a0_0 a0_1 l0_2 k)
noncomputable def yM.fv (a0_0 : Int) (a0_1 : Int) (l0_2 : List Int) : Option (Bool) := lim (fun k => yM.f k a0_0 a0_1 l0_2)
theorem yM.f_lim (a0_0 : Int) (a0_1 : Int) (l0_2 : List Int) : Lim (fun k => yM.f k a0_0 a0_1 l0_2) (yM.fv a0_0 a0_1 l0_2) := lim_Lim (yM.f_mono a0_0 a0_1 l0_2)
theorem yM.fv_eq (a0_0 : Int) (a0_1 : Int) (l0_2 : List Int) : yM.fv a0_0 a0_1 l0_2 = (yP.f a0_0 1 6).bind fun t106 => (if t106 = true then ((yP.f a0_1 1 24).bind fun t107 => (if t107 = true then (if (l0_2.length : Int) = (wrap64 (a0_0 * a0_1)) then ((yD.fv l0_2 144 0 9).bind fun t108 => (some t108)) else (some false)) else (some false))) else (some false)) := by
  refine lim_now (fun k => rfl) (f := fun k => (yP.f a0_0 1 6).bind fun t106 => (if t106 = true then ((yP.f a0_1 1 24).bind fun t107 => (if t107 = true then (if (l0_2.length : Int) = (wrap64 (a0_0 * a0_1)) then ((yD.f k l0_2 144 0 9).bind fun t108 => (some t108)) else (some false)) else (some false))) else (some false))) ?_
  repeat' first
    | (with_reducible exact yD.f_lim _ _ _ _)
    | exact Lim.const _
    | refine Lim.ite ?_ ?_
    | refine Lim.bind ?_ (fun _ => ?_)
open Go.Proofs.YtjjockhekaccnaaW.PrintWords
theorem yB.l0_mono (x5 : Int) (x115000 : Int) (x115001 : Int) (x115002 : List Int) (x116000 : Bool) (x116001 : Bool) (x116002 : Int) : Mono (fun k => yB.l0 k x5 x115000 x115001 x115002 x116000 x116001 x116002) := (fun k => (yB.mono_l k).1 x5 x115000 x115001 x115002 x116000 x116001 x116002)
noncomputable def yB.l0v (x5 : Int) (x115000 : Int) (x115001 : Int) (x115002 : List Int) (x116000 : Bool) (x116001 : Bool) (x116002 : Int) : Option (Bool) := lim (fun k => yB.l0 k x5 x115000 x115001 x115002 x116000 x116001 x116002)
theorem yB.l0_lim (x5 : Int) (x115000 : Int) (x115001 : Int) (x115002 : List Int) (x116000 : Bool) (x116001 : Bool) (x116002 : Int) : Lim (fun k => yB.l0 k x5 x115000 x115001 x115002 x116000 x116001 x116002) (yB.l0v x5 x115000 x115001 x115002 x116000 x116001 x116002) := lim_Lim (yB.l0_mono x5 x115000 x115001 x115002 x116000 x116001 x116002)
theorem yB.l1_mono (x5 : Int) (x6 : Int) (x115000 : Int) (x115001 : Int) (x115002 : List Int) (x116000 : Bool) (x116001 : Bool) (x116002 : Int) : Mono (fun k => yB.l1 k x5 x6 x115000 x115001 x115002 x116000 x116001 x116002) := (fun k => (yB.mono_l k).2 x5 x6 x115000 x115001 x115002 x116000 x116001 x116002)
noncomputable def yB.l1v (x5 : Int) (x6 : Int) (x115000 : Int) (x115001 : Int) (x115002 : List Int) (x116000 : Bool) (x116001 : Bool) (x116002 : Int) : Option (Bool) := lim (fun k => yB.l1 k x5 x6 x115000 x115001 x115002 x116000 x116001 x116002)
theorem yB.l1_lim (x5 : Int) (x6 : Int) (x115000 : Int) (x115001 : Int) (x115002 : List Int) (x116000 : Bool) (x116001 : Bool) (x116002 : Int) : Lim (fun k => yB.l1 k x5 x6 x115000 x115001 x115002 x116000 x116001 x116002) (yB.l1v x5 x6 x115000 x115001 x115002 x116000 x116001 x116002) := lim_Lim (yB.l1_mono x5 x6 x115000 x115001 x115002 x116000 x116001 x116002)
theorem yB.f_mono (a0_0 : Int) (a0_1 : Int) (l0_2 : List Int) (a1_0 : Bool) (a1_1 : Bool) (a1_2 : Int) : Mono (fun k => yB.f k a0_0 a0_1 l0_2 a1_0 a1_1 a1_2) := (fun k => yB.mono a0_0 a0_1 l0_2 a1_0 a1_1 a1_2 k)
noncomputable def yB.fv (a0_0 : Int) (a0_1 : Int) (l0_2 : List Int) (a1_0 : Bool) (a1_1 : Bool) (a1_2 : Int) : Option (Bool) := lim (fun k => yB.f k a0_0 a0_1 l0_2 a1_0 a1_1 a1_2)
theorem yB.f_lim (a0_0 : Int) (a0_1 : Int) (l0_2 : List Int) (a1_0 : Bool) (a1_1 : Bool) (a1_2 : Int) : Lim (fun k => yB.f k a0_0 a0_1 l0_2 a1_0 a1_1 a1_2) (yB.fv a0_0 a0_1 l0_2 a1_0 a1_1 a1_2) := lim_Lim (yB.f_mono a0_0 a0_1 l0_2 a1_0 a1_1 a1_2)
theorem yB.l0v_eq (x5 : Int) (x115000 : Int) (x115001 : Int) (x115002 : List Int) (x116000 : Bool) (x116001 : Bool) (x116002 : Int) : yB.l0v x5 x115000 x115001 x115002 x116000 x116001 x116002 = if x5 < x115000 then (yB.l1v x5 0 x115000 x115001 x115002 x116000 x116001 x116002) else (some true) := by
  refine lim_step (yB.l0_mono x5 x115000 x115001 x115002 x116000 x116001 x116002) (fun k => rfl) (f := fun k => yB.l0 (k + 1) x5 x115000 x115001 x115002 x116000 x116001 x116002) ?_
  simp only [yB.l0]
  repeat' first
    | (with_reducible exact yB.l1_lim _ _ _ _ _ _ _ _)
    | exact Lim.const _
    | refine Lim.ite ?_ ?_
    | refine Lim.bind ?_ (fun _ => ?_)
theorem yB.l1v_eq (x5 : Int) (x6 : Int) (x115000 : Int) (x115001 : Int) (x115002 : List Int) (x116000 : Bool) (x116001 : Bool) (x116002 : Int) : yB.l1v x5 x6 x115000 x115001 x115002 x116000 x116001 x116002 = if x6 < x115001 then ((yY.f x115000 x115001 x115002 x116000 x116001 x116002 x6 x5).bind fun bt116 => ((yU.f x115000 x115001 x115002 bt116.1 bt116.2).bind fun t118 => ((yU.f x115000 x115001 x115002 x6 x5).bind fun t119 => (if t118 = t119 then (yB.l1v x5 (wrap64 (x6 + 1)) x115000 x115001 x115002 x116000 x116001 x116002) else (some false))))) else (yB.l0v (wrap64 (x5 + 1)) x115000 x115001 x115002 x116000 x116001 x116002) := by
  refine lim_step (yB.l1_mono x5 x6 x115000 x115001 x115002 x116000 x116001 x116002) (fun k => rfl) (f := fun k => yB.l1 (k + 1) x5 x6 x115000 x115001 x115002 x116000 x116001 x116002) ?_
  simp only [yB.l1]
  repeat' first
    | (with_reducible exact yB.l0_lim _ _ _ _ _ _ _)
    | (with_reducible exact yB.l1_lim _ _ _ _ _ _ _ _)
    | exact Lim.const _
    | refine Lim.ite ?_ ?_
    | refine Lim.bind ?_ (fun _ => ?_)
theorem yB.fv_eq (a0_0 : Int) (a0_1 : Int) (l0_2 : List Int) (a1_0 : Bool) (a1_1 : Bool) (a1_2 : Int) : yB.fv a0_0 a0_1 l0_2 a1_0 a1_1 a1_2 = yB.l0v 0 a0_0 a0_1 l0_2 a1_0 a1_1 a1_2 := by
  refine lim_now (fun k => rfl) (f := fun k => yB.l0 k 0 a0_0 a0_1 l0_2 a1_0 a1_1 a1_2) ?_
  repeat' first
    | (with_reducible exact yB.l0_lim _ _ _ _ _ _ _)
    | exact Lim.const _
    | refine Lim.ite ?_ ?_
    | refine Lim.bind ?_ (fun _ => ?_)
open Go.Proofs.YtjjockhekaccnaaW.PrintWords
theorem yE.l0_mono (x3 : Int) (x121000 : Int) (x121001 : Int) (x121002 : List Int) : Mono (fun k => yE.l0 k x3 x121000 x121001 x121002) := (fun k => (yE.mono_l k) x3 x121000 x121001 x121002)
noncomputable def yE.l0v (x3 : Int) (x121000 : Int) (x121001 : Int) (x121002 : List Int) : Option (Int) := lim (fun k => yE.l0 k x3 x121000 x121001 x121002)
theorem yE.l0_lim (x3 : Int) (x121000 : Int) (x121001 : Int) (x121002 : List Int) : Lim (fun k => yE.l0 k x3 x121000 x121001 x121002) (yE.l0v x3 x121000 x121001 x121002) := lim_Lim (yE.l0_mono x3 x121000 x121001 x121002)
theorem yE.f_mono (a0_0 : Int) (a0_1 : Int) (l0_2 : List Int) : Mono (fun k => yE.f k a0_0 a0_1 l0_2) := (fun k => yE.mono a0_0 a0_1 l0_2 k)
noncomputable def yE.fv (a0_0 : Int) (a0_1 : Int) (l0_2 : List Int) : Option (Int) := lim (fun k => yE.f k a0_0 a0_1 l0_2)
theorem yE.f_lim (a0_0 : Int) (a0_1 : Int) (l0_2 : List Int) : Lim (fun k => yE.f k a0_0 a0_1 l0_2) (yE.fv a0_0 a0_1 l0_2) := lim_Lim (yE.f_mono a0_0 a0_1 l0_2)
theorem yE.l0v_eq (x3 : Int) (x121000 : Int) (x121001 : Int) (x121002 : List Int) : yE.l0v x3 x121000 x121001 x121002 = (yB.fv x121000 x121001 x121002 false false x3).bind fun t121 => (if t121 = true then (some x3) else (yE.l0v (wrap64 (x3 + 1)) x121000 x121001 x121002)) := by
  refine lim_step (yE.l0_mono x3 x121000 x121001 x121002) (fun k => rfl) (f := fun k => yE.l0 (k + 1) x3 x121000 x121001 x121002) ?_
  simp only [yE.l0]
  repeat' first
    | (with_reducible exact yB.f_lim _ _ _ _ _ _)
    | (with_reducible exact yE.l0_lim _ _ _ _)
    | exact Lim.const _
    | refine Lim.ite ?_ ?_
    | refine Lim.bind ?_ (fun _ => ?_)
theorem yE.fv_eq (a0_0 : Int) (a0_1 : Int) (l0_2 : List Int) : yE.fv a0_0 a0_1 l0_2 = yE.l0v 1 a0_0 a0_1 l0_2 := by
  refine lim_now (fun k => rfl) (f := fun k => yE.l0 k 1 a0_0 a0_1 l0_2) ?_
  repeat' first
    | (with_reducible exact yE.l0_lim _ _ _ _)
    | exact Lim.const _
    | refine Lim.ite ?_ ?_
    | refine Lim.bind ?_ (fun _ => ?_)
open Go.Proofs.YtjjockhekaccnaaW.PrintWords
theorem yL.f_mono (a0_0 : Int) (a0_1 : Int) (l0_2 : List Int) (a1_0 : Int) (a1_1 : Int) (l1_2 : List Int) : Mono (fun k => yL.f k a0_0 a0_1 l0_2 a1_0 a1_1 l1_2) := (fun k => yL.mono a0_0 a0_1 l0_2 a1_0 a1_1 l1_2 k)
noncomputable def yL.fv (a0_0 : Int) (a0_1 : Int) (l0_2 : List Int) (a1_0 : Int) (a1_1 : Int) (l1_2 : List Int) : Option (Bool) := lim (fun k => yL.f k a0_0 a0_1 l0_2 a1_0 a1_1 l1_2)
theorem yL.f_lim (a0_0 : Int) (a0_1 : Int) (l0_2 : List Int) (a1_0 : Int) (a1_1 : Int) (l1_2 : List Int) : Lim (fun k => yL.f k a0_0 a0_1 l0_2 a1_0 a1_1 l1_2) (yL.fv a0_0 a0_1 l0_2 a1_0 a1_1 l1_2) := lim_Lim (yL.f_mono a0_0 a0_1 l0_2 a1_0 a1_1 l1_2)
theorem yL.fv_eq (a0_0 : Int) (a0_1 : Int) (l0_2 : List Int) (a1_0 : Int) (a1_1 : Int) (l1_2 : List Int) : yL.fv a0_0 a0_1 l0_2 a1_0 a1_1 l1_2 = if a0_0 = a1_0 then (if a0_1 = a1_1 then ((yI.fv l0_2 l1_2).bind fun t164 => (if t164 = true then (some true) else (some false))) else (some false)) else (some false) := by
  refine lim_now (fun k => rfl) (f := fun k => if a0_0 = a1_0 then (if a0_1 = a1_1 then ((yI.f k l0_2 l1_2).bind fun t164 => (if t164 = true then (some true) else (some false))) else (some false)) else (some false)) ?_
  repeat' first
    | (with_reducible exact yI.f_lim _ _)
    | exact Lim.const _
    | refine Lim.ite ?_ ?_
    | refine Lim.bind ?_ (fun _ => ?_)
open Go.Proofs.YtjjockhekaccnaaW.PrintWords
theorem yN.f_mono (a0_0 : Int) (a0_1 : Int) (l0_2 : List Int) (a1 : Int) : Mono (fun k => yN.f k a0_0 a0_1 l0_2 a1) := (fun k => yN.mono a0_0 a0_1 l0_2 a1 k)
noncomputable def yN.fv (a0_0 : Int) (a0_1 : Int) (l0_2 : List Int) (a1 : Int) : Option (Int) := lim (fun k => yN.f k a0_0 a0_1 l0_2 a1)
theorem yN.f_lim (a0_0 : Int) (a0_1 : Int) (l0_2 : List Int) (a1 : Int) : Lim (fun k => yN.f k a0_0 a0_1 l0_2 a1) (yN.fv a0_0 a0_1 l0_2 a1) := lim_Lim (yN.f_mono a0_0 a0_1 l0_2 a1)
theorem yN.fv_eq (a0_0 : Int) (a0_1 : Int) (l0_2 : List Int) (a1 : Int) : yN.fv a0_0 a0_1 l0_2 a1 = (yG.fv l0_2 a1).bind fun t224 => (if t224 < 0 then (some (-1)) else (some t224)) := by
  refine lim_now (fun k => rfl) (f := fun k => (yG.f k l0_2 a1).bind fun t224 => (if t224 < 0 then (some (-1)) else (some t224))) ?_
  repeat' first
    | (with_reducible exact yG.f_lim _ _)
    | exact Lim.const _
    | refine Lim.ite ?_ ?_
    | refine Lim.bind ?_ (fun _ => ?_)
open Go.Proofs.YtjjockhekaccnaaW.PrintWords
theorem yO.f_mono (a0_0 : Int) (a0_1 : Int) (l0_2 : List Int) (a1 : Int) : Mono (fun k => yO.f k a0_0 a0_1 l0_2 a1) := (fun k => yO.mono a0_0 a0_1 l0_2 a1 k)
noncomputable def yO.fv (a0_0 : Int) (a0_1 : Int) (l0_2 : List Int) (a1 : Int) : Option (Int × List Int) := lim (fun k => yO.f k a0_0 a0_1 l0_2 a1)
theorem yO.f_lim (a0_0 : Int) (a0_1 : Int) (l0_2 : List Int) (a1 : Int) : Lim (fun k => yO.f k a0_0 a0_1 l0_2 a1) (yO.fv a0_0 a0_1 l0_2 a1) := lim_Lim (yO.f_mono a0_0 a0_1 l0_2 a1)
theorem yO.fv_eq (a0_0 : Int) (a0_1 : Int) (l0_2 : List Int) (a1 : Int) : yO.fv a0_0 a0_1 l0_2 a1 = (yF.fv l0_2 a1).bind fun bt220 => (some (bt220.1, bt220.2)) := by
  refine lim_now (fun k => rfl) (f := fun k => (yF.f k l0_2 a1).bind fun bt220 => (some (bt220.1, bt220.2))) ?_
  repeat' first
    | (with_reducible exact yF.f_lim _ _)
    | exact Lim.const _
    | refine Lim.ite ?_ ?_
    | refine Lim.bind ?_ (fun _ => ?_)
open Go.Proofs.YtjjockhekaccnaaW.PrintWords
theorem yK.f_mono (a0_0 : Int) (a0_1 : Int) (l0_2 : List Int) : Mono (fun k => yK.f k a0_0 a0_1 l0_2) := (fun k => yK.mono a0_0 a0_1 l0_2 k)
noncomputable def yK.fv (a0_0 : Int) (a0_1 : Int) (l0_2 : List Int) : Option (Int × Int × List Int) := lim (fun k => yK.f k a0_0 a0_1 l0_2)
theorem yK.f_lim (a0_0 : Int) (a0_1 : Int) (l0_2 : List Int) : Lim (fun k => yK.f k a0_0 a0_1 l0_2) (yK.fv a0_0 a0_1 l0_2) := lim_Lim (yK.f_mono a0_0 a0_1 l0_2)
theorem yK.fv_eq (a0_0 : Int) (a0_1 : Int) (l0_2 : List Int) : yK.fv a0_0 a0_1 l0_2 = (yH.fv l0_2).bind fun t133 => (some (a0_0, a0_1, t133)) := by
  refine lim_now (fun k => rfl) (f := fun k => (yH.f k l0_2).bind fun t133 => (some (a0_0, a0_1, t133))) ?_
  repeat' first
    | (with_reducible exact yH.f_lim _)
    | exact Lim.const _
    | refine Lim.ite ?_ ?_
    | refine Lim.bind ?_ (fun _ => ?_)
open Go.Proofs.YtjjockhekaccnaaW.PrintWords
theorem zY.l0_mono (x3 : List (S36)) (x8 : Int) (x382000 : Int) (x382001 : Int) (x382002 : List Int) : Mono (fun k => zY.l0 k x3 x8 x382000 x382001 x382002) := (fun k => (zY.mono_l k).1 x3 x8 x382000 x382001 x382002)
noncomputable def zY.l0v (x3 : List (S36)) (x8 : Int) (x382000 : Int) (x382001 : Int) (x382002 : List Int) : Option ((List (S36))) := lim (fun k => zY.l0 k x3 x8 x382000 x382001 x382002)
theorem zY.l0_lim (x3 : List (S36)) (x8 : Int) (x382000 : Int) (x382001 : Int) (x382002 : List Int) : Lim (fun k => zY.l0 k x3 x8 x382000 x382001 x382002) (zY.l0v x3 x8 x382000 x382001 x382002) := lim_Lim (zY.l0_mono x3 x8 x382000 x382001 x382002)
theorem zY.l1_mono (x3 : List (S36)) (x4 : Int) (x8 : Int) (x12 : Int) (x13 : Int) (x382000 : Int) (x382001 : Int) (x382002 : List Int) : Mono (fun k => zY.l1 k x3 x4 x8 x12 x13 x382000 x382001 x382002) := (fun k => (zY.mono_l k).2 x3 x4 x8 x12 x13 x382000 x382001 x382002)
noncomputable def zY.l1v (x3 : List (S36)) (x4 : Int) (x8 : Int) (x12 : Int) (x13 : Int) (x382000 : Int) (x382001 : Int) (x382002 : List Int) : Option ((List (S36))) := lim (fun k => zY.l1 k x3 x4 x8 x12 x13 x382000 x382001 x382002)
theorem zY.l1_lim (x3 : List (S36)) (x4 : Int) (x8 : Int) (x12 : Int) (x13 : Int) (x382000 : Int) (x382001 : Int) (x382002 : List Int) : Lim (fun k => zY.l1 k x3 x4 x8 x12 x13 x382000 x382001 x382002) (zY.l1v x3 x4 x8 x12 x13 x382000 x382001 x382002) := lim_Lim (zY.l1_mono x3 x4 x8 x12 x13 x382000 x382001 x382002)
theorem zY.f_mono (a0_0 : Int) (a0_1 : Int) (l0_2 : List Int) : Mono (fun k => zY.f k a0_0 a0_1 l0_2) := (fun k => zY.mono a0_0 a0_1 l0_2 k)
noncomputable def zY.fv (a0_0 : Int) (a0_1 : Int) (l0_2 : List Int) : Option ((List (S36))) := lim (fun k => zY.f k a0_0 a0_1 l0_2)
theorem zY.f_lim (a0_0 : Int) (a0_1 : Int) (l0_2 : List Int) : Lim (fun k => zY.f k a0_0 a0_1 l0_2) (zY.fv a0_0 a0_1 l0_2) := lim_Lim (zY.f_mono a0_0 a0_1 l0_2)
theorem zY.l0v_eq (x3 : List (S36)) (x8 : Int) (x382000 : Int) (x382001 : Int) (x382002 : List Int) : zY.l0v x3 x8 x382000 x382001 x382002 = if x8 < 4 then ((yC.fv x382000 x382001 x382002).bind fun t385 => (zY.l1v x3 x8 x8 t385 0 x382000 x382001 x382002)) else (some x3) := by
  refine lim_step (zY.l0_mono x3 x8 x382000 x382001 x382002) (fun k => rfl) (f := fun k => zY.l0 (k + 1) x3 x8 x382000 x382001 x382002) ?_
  simp only [zY.l0]
  repeat' first
    | (with_reducible exact yC.f_lim _ _ _)
    | (with_reducible exact zY.l1_lim _ _ _ _ _ _ _ _)
    | exact Lim.const _
    | refine Lim.ite ?_ ?_
    | refine Lim.bind ?_ (fun _ => ?_)
theorem zY.l1v_eq (x3 : List (S36)) (x4 : Int) (x8 : Int) (x12 : Int) (x13 : Int) (x382000 : Int) (x382001 : Int) (x382002 : List Int) : zY.l1v x3 x4 x8 x12 x13 x382000 x382001 x382002 = if x13 < x12 then ((zZ.fv x382000 x382001 x382002 (decide (x4 ≥ 2)) ((Int.tmod x4 2) == 1) x13).bind fun t387 => (if t387 = true then (if x3.length < 8796093022208 then (zY.l1v (x3 ++ [(⟨decide (x4 ≥ 2), ((Int.tmod x4 2) == 1), x13⟩ : S36)]) x4 x8 x12 (wrap64 (x13 + 1)) x382000 x382001 x382002) else (none)) else (zY.l1v x3 x4 x8 x12 (wrap64 (x13 + 1)) x382000 x382001 x382002))) else (zY.l0v x3 (wrap64 (x8 + 1)) x382000 x382001 x382002) := by
  refine lim_step (zY.l1_mono x3 x4 x8 x12 x13 x382000 x382001 x382002) (fun k => rfl) (f := fun k => zY.l1 (k + 1) x3 x4 x8 x12 x13 x382000 x382001 x382002) ?_
  simp only [zY.l1]
  repeat' first
    | (with_reducible exact zZ.f_lim _ _ _ _ _ _)
    | (with_reducible exact zY.l0_lim _ _ _ _ _)
    | (with_reducible exact zY.l1_lim _ _ _ _ _ _ _ _)
    | exact Lim.const _
    | refine Lim.ite ?_ ?_
    | refine Lim.bind ?_ (fun _ => ?_)
theorem zY.fv_eq (a0_0 : Int) (a0_1 : Int) (l0_2 : List Int) : zY.fv a0_0 a0_1 l0_2 = zY.l0v (([] : List (S36))) 0 a0_0 a0_1 l0_2 := by
  refine lim_now (fun k => rfl) (f := fun k => zY.l0 k (([] : List (S36))) 0 a0_0 a0_1 l0_2) ?_
  repeat' first
    | (with_reducible exact zY.l0_lim _ _ _ _ _)
    | exact Lim.const _
    | refine Lim.ite ?_ ?_
    | refine Lim.bind ?_ (fun _ => ?_)
open Go.Proofs.YtjjockhekaccnaaW.PrintWords
theorem yA.l0_mono (x3 : Int) (x4 : List (S36)) (x5 : Int) (x365000 : Int) (x365001 : Int) (x365002 : List Int) : Mono (fun k => yA.l0 k x3 x4 x5 x365000 x365001 x365002) := (fun k => (yA.mono_l k) x3 x4 x5 x365000 x365001 x365002)
noncomputable def yA.l0v (x3 : Int) (x4 : List (S36)) (x5 : Int) (x365000 : Int) (x365001 : Int) (x365002 : List Int) : Option ((List (S36))) := lim (fun k => yA.l0 k x3 x4 x5 x365000 x365001 x365002)
theorem yA.l0_lim (x3 : Int) (x4 : List (S36)) (x5 : Int) (x365000 : Int) (x365001 : Int) (x365002 : List Int) : Lim (fun k => yA.l0 k x3 x4 x5 x365000 x365001 x365002) (yA.l0v x3 x4 x5 x365000 x365001 x365002) := lim_Lim (yA.l0_mono x3 x4 x5 x365000 x365001 x365002)
theorem yA.f_mono (a0_0 : Int) (a0_1 : Int) (l0_2 : List Int) : Mono (fun k => yA.f k a0_0 a0_1 l0_2) := (fun k => yA.mono a0_0 a0_1 l0_2 k)
noncomputable def yA.fv (a0_0 : Int) (a0_1 : Int) (l0_2 : List Int) : Option ((List (S36))) := lim (fun k => yA.f k a0_0 a0_1 l0_2)
theorem yA.f_lim (a0_0 : Int) (a0_1 : Int) (l0_2 : List Int) : Lim (fun k => yA.f k a0_0 a0_1 l0_2) (yA.fv a0_0 a0_1 l0_2) := lim_Lim (yA.f_mono a0_0 a0_1 l0_2)
theorem yA.l0v_eq (x3 : Int) (x4 : List (S36)) (x5 : Int) (x365000 : Int) (x365001 : Int) (x365002 : List Int) : yA.l0v x3 x4 x5 x365000 x365001 x365002 = if x5 < (wrap64 (4 * x3)) then (if x3 = 0 then (none) else ((yB.fv x365000 x365001 x365002 (decide ((wrap64 (Int.tdiv x5 x3)) ≥ 2)) ((Int.tmod (wrap64 (Int.tdiv x5 x3)) 2) == 1) (Int.tmod x5 x3)).bind fun t370 => (if t370 = true then (if x4.length < 8796093022208 then (yA.l0v x3 (x4 ++ [(⟨decide ((wrap64 (Int.tdiv x5 x3)) ≥ 2), ((Int.tmod (wrap64 (Int.tdiv x5 x3)) 2) == 1), Int.tmod x5 x3⟩ : S36)]) (wrap64 (x5 + 1)) x365000 x365001 x365002) else (none)) else (yA.l0v x3 x4 (wrap64 (x5 + 1)) x365000 x365001 x365002)))) else (some x4) := by
  refine lim_step (yA.l0_mono x3 x4 x5 x365000 x365001 x365002) (fun k => rfl) (f := fun k => yA.l0 (k + 1) x3 x4 x5 x365000 x365001 x365002) ?_
  simp only [yA.l0]
  repeat' first
    | (with_reducible exact yB.f_lim _ _ _ _ _ _)
    | (with_reducible exact yA.l0_lim _ _ _ _ _ _)
    | exact Lim.const _
    | refine Lim.ite ?_ ?_
    | refine Lim.bind ?_ (fun _ => ?_)
theorem yA.fv_eq (a0_0 : Int) (a0_1 : Int) (l0_2 : List Int) : yA.fv a0_0 a0_1 l0_2 = (yE.fv a0_0 a0_1 l0_2).bind fun t365 => (yA.l0v t365 (([] : List (S36))) 0 a0_0 a0_1 l0_2) := by
  refine lim_now (fun k => rfl) (f := fun k => (yE.f k a0_0 a0_1 l0_2).bind fun t365 => (yA.l0 k t365 (([] : List (S36))) 0 a0_0 a0_1 l0_2)) ?_
  repeat' first
    | (with_reducible exact yE.f_lim _ _ _)
    | (with_reducible exact yA.l0_lim _ _ _ _ _ _)
    | exact Lim.const _
    | refine Lim.ite ?_ ?_
    | refine Lim.bind ?_ (fun _ => ?_)
open Go.Proofs.YtjjockhekaccnaaW.PrintWords
theorem zW.l0_mono (x4 : Bool) (x5 : Bool) (x6 : Bool) (x7 : Bool) (x14 : List (S36)) (x15 : Int) (x16 : Int) : Mono (fun k => zW.l0 k x4 x5 x6 x7 x14 x15 x16) := (fun k => (zW.mono_l k).1 x4 x5 x6 x7 x14 x15 x16)
noncomputable def zW.l0v (x4 : Bool) (x5 : Bool) (x6 : Bool) (x7 : Bool) (x14 : List (S36)) (x15 : Int) (x16 : Int) : Option (ByteArray × Int) := lim (fun k => zW.l0 k x4 x5 x6 x7 x14 x15 x16)
theorem zW.l0_lim (x4 : Bool) (x5 : Bool) (x6 : Bool) (x7 : Bool) (x14 : List (S36)) (x15 : Int) (x16 : Int) : Lim (fun k => zW.l0 k x4 x5 x6 x7 x14 x15 x16) (zW.l0v x4 x5 x6 x7 x14 x15 x16) := lim_Lim (zW.l0_mono x4 x5 x6 x7 x14 x15 x16)
theorem zW.j1_mono (x4 : Bool) (x5 : Bool) (x6 : Bool) (x7 : Bool) (x70 : Bool) : Mono (fun k => zW.j1 k x4 x5 x6 x7 x70) := (fun k => (zW.mono_l k).2.1 x4 x5 x6 x7 x70)
noncomputable def zW.j1v (x4 : Bool) (x5 : Bool) (x6 : Bool) (x7 : Bool) (x70 : Bool) : Option (ByteArray × Int) := lim (fun k => zW.j1 k x4 x5 x6 x7 x70)
theorem zW.j1_lim (x4 : Bool) (x5 : Bool) (x6 : Bool) (x7 : Bool) (x70 : Bool) : Lim (fun k => zW.j1 k x4 x5 x6 x7 x70) (zW.j1v x4 x5 x6 x7 x70) := lim_Lim (zW.j1_mono x4 x5 x6 x7 x70)
theorem zW.j2_mono (x5 : Bool) (x6 : Bool) (x7 : Bool) (x77 : Bool) : Mono (fun k => zW.j2 k x5 x6 x7 x77) := (fun k => (zW.mono_l k).2.2 x5 x6 x7 x77)
noncomputable def zW.j2v (x5 : Bool) (x6 : Bool) (x7 : Bool) (x77 : Bool) : Option (ByteArray × Int) := lim (fun k => zW.j2 k x5 x6 x7 x77)
theorem zW.j2_lim (x5 : Bool) (x6 : Bool) (x7 : Bool) (x77 : Bool) : Lim (fun k => zW.j2 k x5 x6 x7 x77) (zW.j2v x5 x6 x7 x77) := lim_Lim (zW.j2_mono x5 x6 x7 x77)
theorem zW.f_mono (a0_0 : Int) (a0_1 : Int) (l0_2 : List Int) : Mono (fun k => zW.f k a0_0 a0_1 l0_2) := (fun k => zW.mono a0_0 a0_1 l0_2 k)
noncomputable def zW.fv (a0_0 : Int) (a0_1 : Int) (l0_2 : List Int) : Option (ByteArray × Int) := lim (fun k => zW.f k a0_0 a0_1 l0_2)
theorem zW.f_lim (a0_0 : Int) (a0_1 : Int) (l0_2 : List Int) : Lim (fun k => zW.f k a0_0 a0_1 l0_2) (zW.fv a0_0 a0_1 l0_2) := lim_Lim (zW.f_mono a0_0 a0_1 l0_2)
theorem zW.l0v_eq (x4 : Bool) (x5 : Bool) (x6 : Bool) (x7 : Bool) (x14 : List (S36)) (x15 : Int) (x16 : Int) : zW.l0v x4 x5 x6 x7 x14 x15 x16 = if x16 < x15 then (if 0 ≤ x16 then (if x16 < (x14.length : Int) then (if x4 = true then (if x5 = true then (if x6 = true then (if x7 = true then (zW.l0v true true true true x14 x15 (wrap64 (x16 + 1))) else (if (rd_T36 x14 x16).f0 = true then (zW.l0v true true true ((rd_T36 x14 x16).f1) x14 x15 (wrap64 (x16 + 1))) else (zW.l0v true true true false x14 x15 (wrap64 (x16 + 1))))) else (if (rd_T36 x14 x16).f0 = true then (if x7 = true then (zW.l0v true true (!((rd_T36 x14 x16).f1)) true x14 x15 (wrap64 (x16 + 1))) else (zW.l0v true true (!((rd_T36 x14 x16).f1)) ((rd_T36 x14 x16).f1) x14 x15 (wrap64 (x16 + 1)))) else (if x7 = true then (zW.l0v true true false true x14 x15 (wrap64 (x16 + 1))) else (zW.l0v true true false false x14 x15 (wrap64 (x16 + 1)))))) else (if ((rd_T36 x14 x16).f0 = true) then (if x6 = true then (if x7 = true then (zW.l0v true false true true x14 x15 (wrap64 (x16 + 1))) else (if (rd_T36 x14 x16).f0 = true then (zW.l0v true false true ((rd_T36 x14 x16).f1) x14 x15 (wrap64 (x16 + 1))) else (zW.l0v true false true false x14 x15 (wrap64 (x16 + 1))))) else (if (rd_T36 x14 x16).f0 = true then (if x7 = true then (zW.l0v true false (!((rd_T36 x14 x16).f1)) true x14 x15 (wrap64 (x16 + 1))) else (zW.l0v true false (!((rd_T36 x14 x16).f1)) ((rd_T36 x14 x16).f1) x14 x15 (wrap64 (x16 + 1)))) else (if x7 = true then (zW.l0v true false false true x14 x15 (wrap64 (x16 + 1))) else (zW.l0v true false false false x14 x15 (wrap64 (x16 + 1)))))) else (if (rd_T36 x14 x16).f1 = true then (if x6 = true then (if x7 = true then (zW.l0v true (((rd_T36 x14 x16).f2) != 0) true true x14 x15 (wrap64 (x16 + 1))) else (if (rd_T36 x14 x16).f0 = true then (zW.l0v true (((rd_T36 x14 x16).f2) != 0) true ((rd_T36 x14 x16).f1) x14 x15 (wrap64 (x16 + 1))) else (zW.l0v true (((rd_T36 x14 x16).f2) != 0) true false x14 x15 (wrap64 (x16 + 1))))) else (if (rd_T36 x14 x16).f0 = true then (if x7 = true then (zW.l0v true (((rd_T36 x14 x16).f2) != 0) (!((rd_T36 x14 x16).f1)) true x14 x15 (wrap64 (x16 + 1))) else (zW.l0v true (((rd_T36 x14 x16).f2) != 0) (!((rd_T36 x14 x16).f1)) ((rd_T36 x14 x16).f1) x14 x15 (wrap64 (x16 + 1)))) else (if x7 = true then (zW.l0v true (((rd_T36 x14 x16).f2) != 0) false true x14 x15 (wrap64 (x16 + 1))) else (zW.l0v true (((rd_T36 x14 x16).f2) != 0) false false x14 x15 (wrap64 (x16 + 1)))))) else (if x6 = true then (if x7 = true then (zW.l0v true false true true x14 x15 (wrap64 (x16 + 1))) else (if (rd_T36 x14 x16).f0 = true then (zW.l0v true false true ((rd_T36 x14 x16).f1) x14 x15 (wrap64 (x16 + 1))) else (zW.l0v true false true false x14 x15 (wrap64 (x16 + 1))))) else (if (rd_T36 x14 x16).f0 = true then (if x7 = true then (zW.l0v true false (!((rd_T36 x14 x16).f1)) true x14 x15 (wrap64 (x16 + 1))) else (zW.l0v true false (!((rd_T36 x14 x16).f1)) ((rd_T36 x14 x16).f1) x14 x15 (wrap64 (x16 + 1)))) else (if x7 = true then (zW.l0v true false false true x14 x15 (wrap64 (x16 + 1))) else (zW.l0v true false false false x14 x15 (wrap64 (x16 + 1))))))))) else (if ((rd_T36 x14 x16).f0 = true) then (if x5 = true then (if x6 = true then (if x7 = true then (zW.l0v false true true true x14 x15 (wrap64 (x16 + 1))) else (if (rd_T36 x14 x16).f0 = true then (zW.l0v false true true ((rd_T36 x14 x16).f1) x14 x15 (wrap64 (x16 + 1))) else (zW.l0v false true true false x14 x15 (wrap64 (x16 + 1))))) else (if (rd_T36 x14 x16).f0 = true then (if x7 = true then (zW.l0v false true (!((rd_T36 x14 x16).f1)) true x14 x15 (wrap64 (x16 + 1))) else (zW.l0v false true (!((rd_T36 x14 x16).f1)) ((rd_T36 x14 x16).f1) x14 x15 (wrap64 (x16 + 1)))) else (if x7 = true then (zW.l0v false true false true x14 x15 (wrap64 (x16 + 1))) else (zW.l0v false true false false x14 x15 (wrap64 (x16 + 1)))))) else (if x6 = true then (if x7 = true then (zW.l0v false false true true x14 x15 (wrap64 (x16 + 1))) else (if (rd_T36 x14 x16).f0 = true then (zW.l0v false false true ((rd_T36 x14 x16).f1) x14 x15 (wrap64 (x16 + 1))) else (zW.l0v false false true false x14 x15 (wrap64 (x16 + 1))))) else (if (rd_T36 x14 x16).f0 = true then (if x7 = true then (zW.l0v false false (!((rd_T36 x14 x16).f1)) true x14 x15 (wrap64 (x16 + 1))) else (zW.l0v false false (!((rd_T36 x14 x16).f1)) ((rd_T36 x14 x16).f1) x14 x15 (wrap64 (x16 + 1)))) else (if x7 = true then (zW.l0v false false false true x14 x15 (wrap64 (x16 + 1))) else (zW.l0v false false false false x14 x15 (wrap64 (x16 + 1))))))) else (if (rd_T36 x14 x16).f1 = true then (if x5 = true then (if x6 = true then (if x7 = true then (zW.l0v (((rd_T36 x14 x16).f2) == 0) true true true x14 x15 (wrap64 (x16 + 1))) else (if (rd_T36 x14 x16).f0 = true then (zW.l0v (((rd_T36 x14 x16).f2) == 0) true true ((rd_T36 x14 x16).f1) x14 x15 (wrap64 (x16 + 1))) else (zW.l0v (((rd_T36 x14 x16).f2) == 0) true true false x14 x15 (wrap64 (x16 + 1))))) else (if (rd_T36 x14 x16).f0 = true then (if x7 = true then (zW.l0v (((rd_T36 x14 x16).f2) == 0) true (!((rd_T36 x14 x16).f1)) true x14 x15 (wrap64 (x16 + 1))) else (zW.l0v (((rd_T36 x14 x16).f2) == 0) true (!((rd_T36 x14 x16).f1)) ((rd_T36 x14 x16).f1) x14 x15 (wrap64 (x16 + 1)))) else (if x7 = true then (zW.l0v (((rd_T36 x14 x16).f2) == 0) true false true x14 x15 (wrap64 (x16 + 1))) else (zW.l0v (((rd_T36 x14 x16).f2) == 0) true false false x14 x15 (wrap64 (x16 + 1)))))) else (if x6 = true then (if x7 = true then (zW.l0v (((rd_T36 x14 x16).f2) == 0) (((rd_T36 x14 x16).f2) != 0) true true x14 x15 (wrap64 (x16 + 1))) else (if (rd_T36 x14 x16).f0 = true then (zW.l0v (((rd_T36 x14 x16).f2) == 0) (((rd_T36 x14 x16).f2) != 0) true ((rd_T36 x14 x16).f1) x14 x15 (wrap64 (x16 + 1))) else (zW.l0v (((rd_T36 x14 x16).f2) == 0) (((rd_T36 x14 x16).f2) != 0) true false x14 x15 (wrap64 (x16 + 1))))) else (if (rd_T36 x14 x16).f0 = true then (if x7 = true then (zW.l0v (((rd_T36 x14 x16).f2) == 0) (((rd_T36 x14 x16).f2) != 0) (!((rd_T36 x14 x16).f1)) true x14 x15 (wrap64 (x16 + 1))) else (zW.l0v (((rd_T36 x14 x16).f2) == 0) (((rd_T36 x14 x16).f2) != 0) (!((rd_T36 x14 x16).f1)) ((rd_T36 x14 x16).f1) x14 x15 (wrap64 (x16 + 1)))) else (if x7 = true then (zW.l0v (((rd_T36 x14 x16).f2) == 0) (((rd_T36 x14 x16).f2) != 0) false true x14 x15 (wrap64 (x16 + 1))) else (zW.l0v (((rd_T36 x14 x16).f2) == 0) (((rd_T36 x14 x16).f2) != 0) false false x14 x15 (wrap64 (x16 + 1))))))) else (if x5 = true then (if x6 = true then (if x7 = true then (zW.l0v false true true true x14 x15 (wrap64 (x16 + 1))) else (if (rd_T36 x14 x16).f0 = true then (zW.l0v false true true ((rd_T36 x14 x16).f1) x14 x15 (wrap64 (x16 + 1))) else (zW.l0v false true true false x14 x15 (wrap64 (x16 + 1))))) else (if (rd_T36 x14 x16).f0 = true then (if x7 = true then (zW.l0v false true (!((rd_T36 x14 x16).f1)) true x14 x15 (wrap64 (x16 + 1))) else (zW.l0v false true (!((rd_T36 x14 x16).f1)) ((rd_T36 x14 x16).f1) x14 x15 (wrap64 (x16 + 1)))) else (if x7 = true then (zW.l0v false true false true x14 x15 (wrap64 (x16 + 1))) else (zW.l0v false true false false x14 x15 (wrap64 (x16 + 1)))))) else (if x6 = true then (if x7 = true then (zW.l0v false false true true x14 x15 (wrap64 (x16 + 1))) else (if (rd_T36 x14 x16).f0 = true then (zW.l0v false false true ((rd_T36 x14 x16).f1) x14 x15 (wrap64 (x16 + 1))) else (zW.l0v false false true false x14 x15 (wrap64 (x16 + 1))))) else (if (rd_T36 x14 x16).f0 = true then (if x7 = true then (zW.l0v false false (!((rd_T36 x14 x16).f1)) true x14 x15 (wrap64 (x16 + 1))) else (zW.l0v false false (!((rd_T36 x14 x16).f1)) ((rd_T36 x14 x16).f1) x14 x15 (wrap64 (x16 + 1)))) else (if x7 = true then (zW.l0v false false false true x14 x15 (wrap64 (x16 + 1))) else (zW.l0v false false false false x14 x15 (wrap64 (x16 + 1)))))))))) else (none)) else (none)) else (if x4 = true then (zW.j1v x4 x5 x6 x7 x6) else (zW.j1v x4 x5 x6 x7 false)) := by
  refine lim_step (zW.l0_mono x4 x5 x6 x7 x14 x15 x16) (fun k => rfl) (f := fun k => zW.l0 (k + 1) x4 x5 x6 x7 x14 x15 x16) ?_
  simp only [zW.l0]
  repeat' first
    | (with_reducible exact zW.j1_lim _ _ _ _ _)
    | (with_reducible exact zW.l0_lim _ _ _ _ _ _ _)
    | exact Lim.const _
    | refine Lim.ite ?_ ?_
    | refine Lim.bind ?_ (fun _ => ?_)
theorem zW.j1v_eq (x4 : Bool) (x5 : Bool) (x6 : Bool) (x7 : Bool) (x70 : Bool) : zW.j1v x4 x5 x6 x7 x70 = if x70 = true then (some ((⟨#[112, 50, 109, 109]⟩ : ByteArray), 0)) else (if x4 = true then (some ((⟨#[112, 49, 49, 109]⟩ : ByteArray), 0)) else (if x6 = true then (zW.j2v x5 x6 x7 x7) else (zW.j2v x5 x6 x7 false))) := by
  refine lim_step (zW.j1_mono x4 x5 x6 x7 x70) (fun k => rfl) (f := fun k => zW.j1 (k + 1) x4 x5 x6 x7 x70) ?_
  simp only [zW.j1]
  repeat' first
    | (with_reducible exact zW.j2_lim _ _ _ _)
    | exact Lim.const _
    | refine Lim.ite ?_ ?_
    | refine Lim.bind ?_ (fun _ => ?_)
theorem zW.j2v_eq (x5 : Bool) (x6 : Bool) (x7 : Bool) (x77 : Bool) : zW.j2v x5 x6 x7 x77 = if x77 = true then (some ((⟨#[112, 50, 109, 103]⟩ : ByteArray), 0)) else (if x6 = true then (some ((⟨#[112, 49, 109, 49]⟩ : ByteArray), 0)) else (if x7 = true then (some ((⟨#[112, 50]⟩ : ByteArray), 0)) else (if x5 = true then (some ((⟨#[112, 49, 49, 103]⟩ : ByteArray), 0)) else (some ((⟨#[112, 49]⟩ : ByteArray), 0))))) := by
  refine lim_step (zW.j2_mono x5 x6 x7 x77) (fun k => rfl) (f := fun k => zW.j2 (k + 1) x5 x6 x7 x77) ?_
  simp only [zW.j2]
  repeat' first
    | exact Lim.const _
    | refine Lim.ite ?_ ?_
    | refine Lim.bind ?_ (fun _ => ?_)
theorem zW.fv_eq (a0_0 : Int) (a0_1 : Int) (l0_2 : List Int) : zW.fv a0_0 a0_1 l0_2 = (yW.f a0_0 a0_1 l0_2).bind fun t392 => (if t392 = true then ((zY.fv a0_0 a0_1 l0_2).bind fun t393 => (zW.l0v false false false false t393 (t393.length : Int) 0)) else (some ((⟨#[]⟩ : ByteArray), 1))) := by
  refine lim_now (fun k => rfl) (f := fun k => (yW.f a0_0 a0_1 l0_2).bind fun t392 => (if t392 = true then ((zY.f k a0_0 a0_1 l0_2).bind fun t393 => (zW.l0 k false false false false t393 (t393.length : Int) 0)) else (some ((⟨#[]⟩ : ByteArray), 1)))) ?_
  repeat' first
    | (with_reducible exact zW.l0_lim _ _ _ _ _ _ _)
    | (with_reducible exact zY.f_lim _ _ _)
    | exact Lim.const _
    | refine Lim.ite ?_ ?_
    | refine Lim.bind ?_ (fun _ => ?_)
open Go.Proofs.YtjjockhekaccnaaW.PrintWords
theorem zX.l0_mono (x4 : List (S36)) (x5 : Bool) (x6 : Bool) (x7 : Bool) (x8 : Bool) (x9 : Int) : Mono (fun k => zX.l0 k x4 x5 x6 x7 x8 x9) := (fun k => (zX.mono_l k).1 x4 x5 x6 x7 x8 x9)
noncomputable def zX.l0v (x4 : List (S36)) (x5 : Bool) (x6 : Bool) (x7 : Bool) (x8 : Bool) (x9 : Int) : Option (ByteArray × Int) := lim (fun k => zX.l0 k x4 x5 x6 x7 x8 x9)
theorem zX.l0_lim (x4 : List (S36)) (x5 : Bool) (x6 : Bool) (x7 : Bool) (x8 : Bool) (x9 : Int) : Lim (fun k => zX.l0 k x4 x5 x6 x7 x8 x9) (zX.l0v x4 x5 x6 x7 x8 x9) := lim_Lim (zX.l0_mono x4 x5 x6 x7 x8 x9)
theorem zX.j1_mono (x5 : Bool) (x6 : Bool) (x7 : Bool) (x8 : Bool) (x75 : Bool) : Mono (fun k => zX.j1 k x5 x6 x7 x8 x75) := (fun k => (zX.mono_l k).2.1 x5 x6 x7 x8 x75)
noncomputable def zX.j1v (x5 : Bool) (x6 : Bool) (x7 : Bool) (x8 : Bool) (x75 : Bool) : Option (ByteArray × Int) := lim (fun k => zX.j1 k x5 x6 x7 x8 x75)
theorem zX.j1_lim (x5 : Bool) (x6 : Bool) (x7 : Bool) (x8 : Bool) (x75 : Bool) : Lim (fun k => zX.j1 k x5 x6 x7 x8 x75) (zX.j1v x5 x6 x7 x8 x75) := lim_Lim (zX.j1_mono x5 x6 x7 x8 x75)
theorem zX.j2_mono (x6 : Bool) (x7 : Bool) (x8 : Bool) (x82 : Bool) : Mono (fun k => zX.j2 k x6 x7 x8 x82) := (fun k => (zX.mono_l k).2.2 x6 x7 x8 x82)
noncomputable def zX.j2v (x6 : Bool) (x7 : Bool) (x8 : Bool) (x82 : Bool) : Option (ByteArray × Int) := lim (fun k => zX.j2 k x6 x7 x8 x82)
theorem zX.j2_lim (x6 : Bool) (x7 : Bool) (x8 : Bool) (x82 : Bool) : Lim (fun k => zX.j2 k x6 x7 x8 x82) (zX.j2v x6 x7 x8 x82) := lim_Lim (zX.j2_mono x6 x7 x8 x82)
theorem zX.f_mono (a0_0 : Int) (a0_1 : Int) (l0_2 : List Int) : Mono (fun k => zX.f k a0_0 a0_1 l0_2) := (fun k => zX.mono a0_0 a0_1 l0_2 k)
noncomputable def zX.fv (a0_0 : Int) (a0_1 : Int) (l0_2 : List Int) : Option (ByteArray × Int) := lim (fun k => zX.f k a0_0 a0_1 l0_2)
theorem zX.f_lim (a0_0 : Int) (a0_1 : Int) (l0_2 : List Int) : Lim (fun k => zX.f k a0_0 a0_1 l0_2) (zX.fv a0_0 a0_1 l0_2) := lim_Lim (zX.f_mono a0_0 a0_1 l0_2)
theorem zX.l0v_eq (x4 : List (S36)) (x5 : Bool) (x6 : Bool) (x7 : Bool) (x8 : Bool) (x9 : Int) : zX.l0v x4 x5 x6 x7 x8 x9 = if x9 < (x4.length : Int) then (if 0 ≤ x9 then (if x5 = true then (if x6 = true then (if x7 = true then (if x8 = true then (zX.l0v x4 true true true true (wrap64 (x9 + 1))) else (if (rd_T36 x4 x9).f0 = true then (zX.l0v x4 true true true ((rd_T36 x4 x9).f1) (wrap64 (x9 + 1))) else (zX.l0v x4 true true true false (wrap64 (x9 + 1))))) else (if (rd_T36 x4 x9).f0 = true then (if x8 = true then (zX.l0v x4 true true (!((rd_T36 x4 x9).f1)) true (wrap64 (x9 + 1))) else (zX.l0v x4 true true (!((rd_T36 x4 x9).f1)) ((rd_T36 x4 x9).f1) (wrap64 (x9 + 1)))) else (if x8 = true then (zX.l0v x4 true true false true (wrap64 (x9 + 1))) else (zX.l0v x4 true true false false (wrap64 (x9 + 1)))))) else (if ((rd_T36 x4 x9).f0 = true) then (if x7 = true then (if x8 = true then (zX.l0v x4 true false true true (wrap64 (x9 + 1))) else (if (rd_T36 x4 x9).f0 = true then (zX.l0v x4 true false true ((rd_T36 x4 x9).f1) (wrap64 (x9 + 1))) else (zX.l0v x4 true false true false (wrap64 (x9 + 1))))) else (if (rd_T36 x4 x9).f0 = true then (if x8 = true then (zX.l0v x4 true false (!((rd_T36 x4 x9).f1)) true (wrap64 (x9 + 1))) else (zX.l0v x4 true false (!((rd_T36 x4 x9).f1)) ((rd_T36 x4 x9).f1) (wrap64 (x9 + 1)))) else (if x8 = true then (zX.l0v x4 true false false true (wrap64 (x9 + 1))) else (zX.l0v x4 true false false false (wrap64 (x9 + 1)))))) else (if (rd_T36 x4 x9).f1 = true then (if x7 = true then (if x8 = true then (zX.l0v x4 true (((rd_T36 x4 x9).f2) != 0) true true (wrap64 (x9 + 1))) else (if (rd_T36 x4 x9).f0 = true then (zX.l0v x4 true (((rd_T36 x4 x9).f2) != 0) true ((rd_T36 x4 x9).f1) (wrap64 (x9 + 1))) else (zX.l0v x4 true (((rd_T36 x4 x9).f2) != 0) true false (wrap64 (x9 + 1))))) else (if (rd_T36 x4 x9).f0 = true then (if x8 = true then (zX.l0v x4 true (((rd_T36 x4 x9).f2) != 0) (!((rd_T36 x4 x9).f1)) true (wrap64 (x9 + 1))) else (zX.l0v x4 true (((rd_T36 x4 x9).f2) != 0) (!((rd_T36 x4 x9).f1)) ((rd_T36 x4 x9).f1) (wrap64 (x9 + 1)))) else (if x8 = true then (zX.l0v x4 true (((rd_T36 x4 x9).f2) != 0) false true (wrap64 (x9 + 1))) else (zX.l0v x4 true (((rd_T36 x4 x9).f2) != 0) false false (wrap64 (x9 + 1)))))) else (if x7 = true then (if x8 = true then (zX.l0v x4 true false true true (wrap64 (x9 + 1))) else (if (rd_T36 x4 x9).f0 = true then (zX.l0v x4 true false true ((rd_T36 x4 x9).f1) (wrap64 (x9 + 1))) else (zX.l0v x4 true false true false (wrap64 (x9 + 1))))) else (if (rd_T36 x4 x9).f0 = true then (if x8 = true then (zX.l0v x4 true false (!((rd_T36 x4 x9).f1)) true (wrap64 (x9 + 1))) else (zX.l0v x4 true false (!((rd_T36 x4 x9).f1)) ((rd_T36 x4 x9).f1) (wrap64 (x9 + 1)))) else (if x8 = true then (zX.l0v x4 true false false true (wrap64 (x9 + 1))) else (zX.l0v x4 true false false false (wrap64 (x9 + 1))))))))) else (if ((rd_T36 x4 x9).f0 = true) then (if x6 = true then (if x7 = true then (if x8 = true then (zX.l0v x4 false true true true (wrap64 (x9 + 1))) else (if (rd_T36 x4 x9).f0 = true then (zX.l0v x4 false true true ((rd_T36 x4 x9).f1) (wrap64 (x9 + 1))) else (zX.l0v x4 false true true false (wrap64 (x9 + 1))))) else (if (rd_T36 x4 x9).f0 = true then (if x8 = true then (zX.l0v x4 false true (!((rd_T36 x4 x9).f1)) true (wrap64 (x9 + 1))) else (zX.l0v x4 false true (!((rd_T36 x4 x9).f1)) ((rd_T36 x4 x9).f1) (wrap64 (x9 + 1)))) else (if x8 = true then (zX.l0v x4 false true false true (wrap64 (x9 + 1))) else (zX.l0v x4 false true false false (wrap64 (x9 + 1)))))) else (if x7 = true then (if x8 = true then (zX.l0v x4 false false true true (wrap64 (x9 + 1))) else (if (rd_T36 x4 x9).f0 = true then (zX.l0v x4 false false true ((rd_T36 x4 x9).f1) (wrap64 (x9 + 1))) else (zX.l0v x4 false false true false (wrap64 (x9 + 1))))) else (if (rd_T36 x4 x9).f0 = true then (if x8 = true then (zX.l0v x4 false false (!((rd_T36 x4 x9).f1)) true (wrap64 (x9 + 1))) else (zX.l0v x4 false false (!((rd_T36 x4 x9).f1)) ((rd_T36 x4 x9).f1) (wrap64 (x9 + 1)))) else (if x8 = true then (zX.l0v x4 false false false true (wrap64 (x9 + 1))) else (zX.l0v x4 false false false false (wrap64 (x9 + 1))))))) else (if (rd_T36 x4 x9).f1 = true then (if x6 = true then (if x7 = true then (if x8 = true then (zX.l0v x4 (((rd_T36 x4 x9).f2) == 0) true true true (wrap64 (x9 + 1))) else (if (rd_T36 x4 x9).f0 = true then (zX.l0v x4 (((rd_T36 x4 x9).f2) == 0) true true ((rd_T36 x4 x9).f1) (wrap64 (x9 + 1))) else (zX.l0v x4 (((rd_T36 x4 x9).f2) == 0) true true false (wrap64 (x9 + 1))))) else (if (rd_T36 x4 x9).f0 = true then (if x8 = true then (zX.l0v x4 (((rd_T36 x4 x9).f2) == 0) true (!((rd_T36 x4 x9).f1)) true (wrap64 (x9 + 1))) else (zX.l0v x4 (((rd_T36 x4 x9).f2) == 0) true (!((rd_T36 x4 x9).f1)) ((rd_T36 x4 x9).f1) (wrap64 (x9 + 1)))) else (if x8 = true then (zX.l0v x4 (((rd_T36 x4 x9).f2) == 0) true false true (wrap64 (x9 + 1))) else (zX.l0v x4 (((rd_T36 x4 x9).f2) == 0) true false false (wrap64 (x9 + 1)))))) else (if x7 = true then (if x8 = true then (zX.l0v x4 (((rd_T36 x4 x9).f2) == 0) (((rd_T36 x4 x9).f2) != 0) true true (wrap64 (x9 + 1))) else (if (rd_T36 x4 x9).f0 = true then (zX.l0v x4 (((rd_T36 x4 x9).f2) == 0) (((rd_T36 x4 x9).f2) != 0) true ((rd_T36 x4 x9).f1) (wrap64 (x9 + 1))) else (zX.l0v x4 (((rd_T36 x4 x9).f2) == 0) (((rd_T36 x4 x9).f2) != 0) true false (wrap64 (x9 + 1))))) else (if (rd_T36 x4 x9).f0 = true then (if x8 = true then (zX.l0v x4 (((rd_T36 x4 x9).f2) == 0) (((rd_T36 x4 x9).f2) != 0) (!((rd_T36 x4 x9).f1)) true (wrap64 (x9 + 1))) else (zX.l0v x4 (((rd_T36 x4 x9).f2) == 0) (((rd_T36 x4 x9).f2) != 0) (!((rd_T36 x4 x9).f1)) ((rd_T36 x4 x9).f1) (wrap64 (x9 + 1)))) else (if x8 = true then (zX.l0v x4 (((rd_T36 x4 x9).f2) == 0) (((rd_T36 x4 x9).f2) != 0) false true (wrap64 (x9 + 1))) else (zX.l0v x4 (((rd_T36 x4 x9).f2) == 0) (((rd_T36 x4 x9).f2) != 0) false false (wrap64 (x9 + 1))))))) else (if x6 = true then (if x7 = true then (if x8 = true then (zX.l0v x4 false true true true (wrap64 (x9 + 1))) else (if (rd_T36 x4 x9).f0 = true then (zX.l0v x4 false true true ((rd_T36 x4 x9).f1) (wrap64 (x9 + 1))) else (zX.l0v x4 false true true false (wrap64 (x9 + 1))))) else (if (rd_T36 x4 x9).f0 = true then (if x8 = true then (zX.l0v x4 false true (!((rd_T36 x4 x9).f1)) true (wrap64 (x9 + 1))) else (zX.l0v x4 false true (!((rd_T36 x4 x9).f1)) ((rd_T36 x4 x9).f1) (wrap64 (x9 + 1)))) else (if x8 = true then (zX.l0v x4 false true false true (wrap64 (x9 + 1))) else (zX.l0v x4 false true false false (wrap64 (x9 + 1)))))) else (if x7 = true then (if x8 = true then (zX.l0v x4 false false true true (wrap64 (x9 + 1))) else (if (rd_T36 x4 x9).f0 = true then (zX.l0v x4 false false true ((rd_T36 x4 x9).f1) (wrap64 (x9 + 1))) else (zX.l0v x4 false false true false (wrap64 (x9 + 1))))) else (if (rd_T36 x4 x9).f0 = true then (if x8 = true then (zX.l0v x4 false false (!((rd_T36 x4 x9).f1)) true (wrap64 (x9 + 1))) else (zX.l0v x4 false false (!((rd_T36 x4 x9).f1)) ((rd_T36 x4 x9).f1) (wrap64 (x9 + 1)))) else (if x8 = true then (zX.l0v x4 false false false true (wrap64 (x9 + 1))) else (zX.l0v x4 false false false false (wrap64 (x9 + 1)))))))))) else (none)) else (if x5 = true then (zX.j1v x5 x6 x7 x8 x7) else (zX.j1v x5 x6 x7 x8 false)) := by
  refine lim_step (zX.l0_mono x4 x5 x6 x7 x8 x9) (fun k => rfl) (f := fun k => zX.l0 (k + 1) x4 x5 x6 x7 x8 x9) ?_
  simp only [zX.l0]
  repeat' first
    | (with_reducible exact zX.j1_lim _ _ _ _ _)
    | (with_reducible exact zX.l0_lim _ _ _ _ _ _)
    | exact Lim.const _
    | refine Lim.ite ?_ ?_
    | refine Lim.bind ?_ (fun _ => ?_)
theorem zX.j1v_eq (x5 : Bool) (x6 : Bool) (x7 : Bool) (x8 : Bool) (x75 : Bool) : zX.j1v x5 x6 x7 x8 x75 = if x75 = true then (some ((⟨#[112, 50, 109, 109]⟩ : ByteArray), 0)) else (if x5 = true then (some ((⟨#[112, 49, 49, 109]⟩ : ByteArray), 0)) else (if x7 = true then (zX.j2v x6 x7 x8 x8) else (zX.j2v x6 x7 x8 false))) := by
  refine lim_step (zX.j1_mono x5 x6 x7 x8 x75) (fun k => rfl) (f := fun k => zX.j1 (k + 1) x5 x6 x7 x8 x75) ?_
  simp only [zX.j1]
  repeat' first
    | (with_reducible exact zX.j2_lim _ _ _ _)
    | exact Lim.const _
    | refine Lim.ite ?_ ?_
    | refine Lim.bind ?_ (fun _ => ?_)
theorem zX.j2v_eq (x6 : Bool) (x7 : Bool) (x8 : Bool) (x82 : Bool) : zX.j2v x6 x7 x8 x82 = if x82 = true then (some ((⟨#[112, 50, 109, 103]⟩ : ByteArray), 0)) else (if x7 = true then (some ((⟨#[112, 49, 109, 49]⟩ : ByteArray), 0)) else (if x8 = true then (some ((⟨#[112, 50]⟩ : ByteArray), 0)) else (if x6 = true then (some ((⟨#[112, 49, 49, 103]⟩ : ByteArray), 0)) else (some ((⟨#[112, 49]⟩ : ByteArray), 0))))) := by
  refine lim_step (zX.j2_mono x6 x7 x8 x82) (fun k => rfl) (f := fun k => zX.j2 (k + 1) x6 x7 x8 x82) ?_
  simp only [zX.j2]
  repeat' first
    | exact Lim.const _
    | refine Lim.ite ?_ ?_
    | refine Lim.bind ?_ (fun _ => ?_)
theorem zX.fv_eq (a0_0 : Int) (a0_1 : Int) (l0_2 : List Int) : zX.fv a0_0 a0_1 l0_2 = (yM.fv a0_0 a0_1 l0_2).bind fun t375 => (if t375 = true then ((yA.fv a0_0 a0_1 l0_2).bind fun t376 => (zX.l0v t376 false false false false 0)) else (some ((⟨#[]⟩ : ByteArray), 1))) := by
  refine lim_now (fun k => rfl) (f := fun k => (yM.f k a0_0 a0_1 l0_2).bind fun t375 => (if t375 = true then ((yA.f k a0_0 a0_1 l0_2).bind fun t376 => (zX.l0 k t376 false false false false 0)) else (some ((⟨#[]⟩ : ByteArray), 1)))) ?_
  repeat' first
    | (with_reducible exact zX.l0_lim _ _ _ _ _ _)
    | (with_reducible exact yM.f_lim _ _ _)
    | (with_reducible exact yA.f_lim _ _ _)
    | exact Lim.const _
    | refine Lim.ite ?_ ?_
    | refine Lim.bind ?_ (fun _ => ?_)
open Go.Proofs.YtjjockhekaccnaaW.PrintWords
theorem yJ.f_mono (a0_0 : Int) (a0_1 : Int) (l0_2 : List Int) : Mono (fun k => yJ.f k a0_0 a0_1 l0_2) := (fun k => yJ.mono a0_0 a0_1 l0_2 k)
noncomputable def yJ.fv (a0_0 : Int) (a0_1 : Int) (l0_2 : List Int) : Option (Bool) := lim (fun k => yJ.f k a0_0 a0_1 l0_2)
theorem yJ.f_lim (a0_0 : Int) (a0_1 : Int) (l0_2 : List Int) : Lim (fun k => yJ.f k a0_0 a0_1 l0_2) (yJ.fv a0_0 a0_1 l0_2) := lim_Lim (yJ.f_mono a0_0 a0_1 l0_2)
theorem yJ.fv_eq (a0_0 : Int) (a0_1 : Int) (l0_2 : List Int) : yJ.fv a0_0 a0_1 l0_2 = (yX.f a0_0 a0_1 l0_2 1048576).bind fun t399 => (if t399 < 0 then (some true) else ((yK.fv a0_0 a0_1 l0_2).bind fun bt400 => ((zX.fv bt400.1 bt400.2.1 bt400.2.2).bind fun bt405 => ((yK.fv a0_0 a0_1 l0_2).bind fun bt407 => ((zW.fv bt407.1 bt407.2.1 bt407.2.2).bind fun bt413 => (if bt413.1.toList = bt405.1.toList then (if bt413.2 = bt405.2 then ((yK.fv a0_0 a0_1 l0_2).bind fun bt415 => ((yL.fv bt407.1 bt407.2.1 bt407.2.2 bt415.1 bt415.2.1 bt415.2.2).bind fun t420 => (if t420 = true then (some true) else (none)))) else (none)) else (none))))))) := by
  refine lim_now (fun k => rfl) (f := fun k => yJ.f k a0_0 a0_1 l0_2) ?_
  simp only [yJ.f]
  repeat' first
    | (with_reducible exact zW.f_lim _ _ _)
    | (with_reducible exact yL.f_lim _ _ _ _ _ _)
    | (with_reducible exact yK.f_lim _ _ _)
    | (with_reducible exact zX.f_lim _ _ _)
    | exact Lim.const _
    | refine Lim.ite ?_ ?_
    | refine Lim.bind ?_ (fun _ => ?_)
end Go.Proofs.Ytjjockhekaccnaa.X
