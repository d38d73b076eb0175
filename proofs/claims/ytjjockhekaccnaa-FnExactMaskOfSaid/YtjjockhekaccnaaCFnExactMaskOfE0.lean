/- Part of the proof of the law FnExactMaskOf: equations of the plain functions. No condition of its own. -/
import Derived.Test.YtjjockhekaccnaaCFnExactMaskOfD0
namespace Go.Proofs.Ytjjockhekaccnaa.X
open Go.RowKit Go.Proofs.YtjjockhekaccnaaW.PrintWords Go.Proofs.YtjjockhekaccnaaW.PrintLast Go.Proofs.YtjjockhekaccnaaW.PrintMore
attribute [local go_sem] max2_int min2_int max_two min_two max_three min_three max_four min_four   -- for this text's walks alone
set_option linter.unusedVariables false
set_option linter.unusedSimpArgs false

open Go.Proofs.YtjjockhekaccnaaW.PrintWords
/-! ### laws_eqInt64S -/
theorem laws_eqInt64S.l0_mono (x0 : List Int) (x1 : List Int) (x5 : Int) : Mono (fun k => laws_eqInt64S.l0 k x0 x1 x5) := (fun k => (laws_eqInt64S.mono_l k) x0 x1 x5)
noncomputable def laws_eqInt64S.l0v (x0 : List Int) (x1 : List Int) (x5 : Int) : Option (Bool) := lim (fun k => laws_eqInt64S.l0 k x0 x1 x5)
theorem laws_eqInt64S.l0_lim (x0 : List Int) (x1 : List Int) (x5 : Int) : Lim (fun k => laws_eqInt64S.l0 k x0 x1 x5) (laws_eqInt64S.l0v x0 x1 x5) := lim_Lim (laws_eqInt64S.l0_mono x0 x1 x5)
theorem laws_eqInt64S.f_mono (l0 : List Int) (l1 : List Int) : Mono (fun k => laws_eqInt64S.f k l0 l1) := (fun k => laws_eqInt64S.mono l0 l1 k)
noncomputable def laws_eqInt64S.fv (l0 : List Int) (l1 : List Int) : Option (Bool) := lim (fun k => laws_eqInt64S.f k l0 l1)
theorem laws_eqInt64S.f_lim (l0 : List Int) (l1 : List Int) : Lim (fun k => laws_eqInt64S.f k l0 l1) (laws_eqInt64S.fv l0 l1) := lim_Lim (laws_eqInt64S.f_mono l0 l1)
theorem laws_eqInt64S.l0v_eq (x0 : List Int) (x1 : List Int) (x5 : Int) : laws_eqInt64S.l0v x0 x1 x5 = if x5 < (x0.length : Int) then (if 0 ≤ x5 then (if x5 < (x1.length : Int) then (if (rd x0 x5) = (rd x1 x5) then (laws_eqInt64S.l0v x0 x1 (wrap64 (x5 + 1))) else (some false)) else (none)) else (none)) else (some true) := by
  refine lim_step (laws_eqInt64S.l0_mono x0 x1 x5) (fun k => by rw [laws_eqInt64S.l0]) (f := fun k => if x5 < (x0.length : Int) then (if 0 ≤ x5 then (if x5 < (x1.length : Int) then (if (rd x0 x5) = (rd x1 x5) then (laws_eqInt64S.l0 k x0 x1 (wrap64 (x5 + 1))) else (some false)) else (none)) else (none)) else (some true)) ?_
  repeat' first
    | (with_reducible exact laws_eqInt64S.l0_lim _ _ _)
    | exact Lim.const _
    | refine Lim.ite ?_ ?_
    | refine Lim.bind ?_ (fun _ => ?_)
theorem laws_eqInt64S.fv_eq (l0 : List Int) (l1 : List Int) : laws_eqInt64S.fv l0 l1 = if (l0.length : Int) = (l1.length : Int) then (laws_eqInt64S.l0v l0 l1 0) else (some false) := by
  refine lim_now (fun k => rfl) (f := fun k => if (l0.length : Int) = (l1.length : Int) then (laws_eqInt64S.l0 k l0 l1 0) else (some false)) ?_
  repeat' first
    | (with_reducible exact laws_eqInt64S.l0_lim _ _ _)
    | exact Lim.const _
    | refine Lim.ite ?_ ?_
    | refine Lim.bind ?_ (fun _ => ?_)
end Go.Proofs.Ytjjockhekaccnaa.X
namespace Go.Proofs.Ytjjockhekaccnaa.X
open Go.RowKit Go.Proofs.YtjjockhekaccnaaW.PrintWords Go.Proofs.YtjjockhekaccnaaW.PrintLast Go.Proofs.YtjjockhekaccnaaW.PrintMore
attribute [local go_sem] max2_int min2_int max_two min_two max_three min_three max_four min_four   -- for this text's walks alone
set_option linter.unusedVariables false
set_option linter.unusedSimpArgs false

open Go.Proofs.YtjjockhekaccnaaW.PrintWords
/-! ### laws_heldInt64S -/
theorem laws_heldInt64S.l0_mono (x0 : List Int) (x1 : Int) (x5 : Int) : Mono (fun k => laws_heldInt64S.l0 k x0 x1 x5) := (fun k => (laws_heldInt64S.mono_l k) x0 x1 x5)
noncomputable def laws_heldInt64S.l0v (x0 : List Int) (x1 : Int) (x5 : Int) : Option (Int) := lim (fun k => laws_heldInt64S.l0 k x0 x1 x5)
theorem laws_heldInt64S.l0_lim (x0 : List Int) (x1 : Int) (x5 : Int) : Lim (fun k => laws_heldInt64S.l0 k x0 x1 x5) (laws_heldInt64S.l0v x0 x1 x5) := lim_Lim (laws_heldInt64S.l0_mono x0 x1 x5)
theorem laws_heldInt64S.f_mono (l0 : List Int) (a1 : Int) : Mono (fun k => laws_heldInt64S.f k l0 a1) := (fun k => laws_heldInt64S.mono l0 a1 k)
noncomputable def laws_heldInt64S.fv (l0 : List Int) (a1 : Int) : Option (Int) := lim (fun k => laws_heldInt64S.f k l0 a1)
theorem laws_heldInt64S.f_lim (l0 : List Int) (a1 : Int) : Lim (fun k => laws_heldInt64S.f k l0 a1) (laws_heldInt64S.fv l0 a1) := lim_Lim (laws_heldInt64S.f_mono l0 a1)
theorem laws_heldInt64S.l0v_eq (x0 : List Int) (x1 : Int) (x5 : Int) : laws_heldInt64S.l0v x0 x1 x5 = if x5 < (x0.length : Int) then (if 0 ≤ x5 then (if (rd x0 x5) = x1 then (laws_heldInt64S.l0v x0 (wrap64 (x1 + 1)) (wrap64 (x5 + 1))) else (some (-1))) else (none)) else (some x1) := by
  refine lim_step (laws_heldInt64S.l0_mono x0 x1 x5) (fun k => by rw [laws_heldInt64S.l0]) (f := fun k => if x5 < (x0.length : Int) then (if 0 ≤ x5 then (if (rd x0 x5) = x1 then (laws_heldInt64S.l0 k x0 (wrap64 (x1 + 1)) (wrap64 (x5 + 1))) else (some (-1))) else (none)) else (some x1)) ?_
  repeat' first
    | (with_reducible exact laws_heldInt64S.l0_lim _ _ _)
    | exact Lim.const _
    | refine Lim.ite ?_ ?_
    | refine Lim.bind ?_ (fun _ => ?_)
theorem laws_heldInt64S.fv_eq (l0 : List Int) (a1 : Int) : laws_heldInt64S.fv l0 a1 = laws_heldInt64S.l0v l0 a1 0 := by
  refine lim_now (fun k => rfl) (f := fun k => laws_heldInt64S.l0 k l0 a1 0) ?_
  repeat' first
    | (with_reducible exact laws_heldInt64S.l0_lim _ _ _)
    | exact Lim.const _
    | refine Lim.ite ?_ ?_
    | refine Lim.bind ?_ (fun _ => ?_)
end Go.Proofs.Ytjjockhekaccnaa.X
namespace Go.Proofs.Ytjjockhekaccnaa.X
open Go.RowKit Go.Proofs.YtjjockhekaccnaaW.PrintWords Go.Proofs.YtjjockhekaccnaaW.PrintLast Go.Proofs.YtjjockhekaccnaaW.PrintMore
attribute [local go_sem] max2_int min2_int max_two min_two max_three min_three max_four min_four   -- for this text's walks alone
set_option linter.unusedVariables false
set_option linter.unusedSimpArgs false

open Go.Proofs.YtjjockhekaccnaaW.PrintWords
/-! ### laws_markInt64S -/
theorem laws_markInt64S.l0_mono (x0 : List Int) (x1 : Int) (x5 : Int) : Mono (fun k => laws_markInt64S.l0 k x0 x1 x5) := (fun k => (laws_markInt64S.mono_l k) x0 x1 x5)
noncomputable def laws_markInt64S.l0v (x0 : List Int) (x1 : Int) (x5 : Int) : Option (Int × List Int) := lim (fun k => laws_markInt64S.l0 k x0 x1 x5)
theorem laws_markInt64S.l0_lim (x0 : List Int) (x1 : Int) (x5 : Int) : Lim (fun k => laws_markInt64S.l0 k x0 x1 x5) (laws_markInt64S.l0v x0 x1 x5) := lim_Lim (laws_markInt64S.l0_mono x0 x1 x5)
theorem laws_markInt64S.f_mono (l0 : List Int) (a1 : Int) : Mono (fun k => laws_markInt64S.f k l0 a1) := (fun k => laws_markInt64S.mono l0 a1 k)
noncomputable def laws_markInt64S.fv (l0 : List Int) (a1 : Int) : Option (Int × List Int) := lim (fun k => laws_markInt64S.f k l0 a1)
theorem laws_markInt64S.f_lim (l0 : List Int) (a1 : Int) : Lim (fun k => laws_markInt64S.f k l0 a1) (laws_markInt64S.fv l0 a1) := lim_Lim (laws_markInt64S.f_mono l0 a1)
theorem laws_markInt64S.l0v_eq (x0 : List Int) (x1 : Int) (x5 : Int) : laws_markInt64S.l0v x0 x1 x5 = if x5 < (x0.length : Int) then (if 0 ≤ x5 then (laws_markInt64S.l0v (x0.set (x5 : Int).toNat x1) (wrap64 (x1 + 1)) (wrap64 (x5 + 1))) else (none)) else (some (x1, x0)) := by
  refine lim_step (laws_markInt64S.l0_mono x0 x1 x5) (fun k => by rw [laws_markInt64S.l0]) (f := fun k => if x5 < (x0.length : Int) then (if 0 ≤ x5 then (laws_markInt64S.l0 k (x0.set (x5 : Int).toNat x1) (wrap64 (x1 + 1)) (wrap64 (x5 + 1))) else (none)) else (some (x1, x0))) ?_
  repeat' first
    | (with_reducible exact laws_markInt64S.l0_lim _ _ _)
    | exact Lim.const _
    | refine Lim.ite ?_ ?_
    | refine Lim.bind ?_ (fun _ => ?_)
theorem laws_markInt64S.fv_eq (l0 : List Int) (a1 : Int) : laws_markInt64S.fv l0 a1 = laws_markInt64S.l0v l0 a1 0 := by
  refine lim_now (fun k => rfl) (f := fun k => laws_markInt64S.l0 k l0 a1 0) ?_
  repeat' first
    | (with_reducible exact laws_markInt64S.l0_lim _ _ _)
    | exact Lim.const _
    | refine Lim.ite ?_ ?_
    | refine Lim.bind ?_ (fun _ => ?_)
end Go.Proofs.Ytjjockhekaccnaa.X
namespace Go.Proofs.Ytjjockhekaccnaa.X
open Go.RowKit Go.Proofs.YtjjockhekaccnaaW.PrintWords Go.Proofs.YtjjockhekaccnaaW.PrintLast Go.Proofs.YtjjockhekaccnaaW.PrintMore
attribute [local go_sem] max2_int min2_int max_two min_two max_three min_three max_four min_four   -- for this text's walks alone
set_option linter.unusedVariables false
set_option linter.unusedSimpArgs false

open Go.Proofs.YtjjockhekaccnaaW.PrintWords
/-! ### laws_toInt64S -/
theorem laws_toInt64S.l0_mono (x0 : List Int) (x3 : List Int) (x4 : Int) : Mono (fun k => laws_toInt64S.l0 k x0 x3 x4) := (fun k => (laws_toInt64S.mono_l k) x0 x3 x4)
noncomputable def laws_toInt64S.l0v (x0 : List Int) (x3 : List Int) (x4 : Int) : Option (List Int) := lim (fun k => laws_toInt64S.l0 k x0 x3 x4)
theorem laws_toInt64S.l0_lim (x0 : List Int) (x3 : List Int) (x4 : Int) : Lim (fun k => laws_toInt64S.l0 k x0 x3 x4) (laws_toInt64S.l0v x0 x3 x4) := lim_Lim (laws_toInt64S.l0_mono x0 x3 x4)
theorem laws_toInt64S.f_mono (l0 : List Int) : Mono (fun k => laws_toInt64S.f k l0) := (fun k => laws_toInt64S.mono l0 k)
noncomputable def laws_toInt64S.fv (l0 : List Int) : Option (List Int) := lim (fun k => laws_toInt64S.f k l0)
theorem laws_toInt64S.f_lim (l0 : List Int) : Lim (fun k => laws_toInt64S.f k l0) (laws_toInt64S.fv l0) := lim_Lim (laws_toInt64S.f_mono l0)
theorem laws_toInt64S.l0v_eq (x0 : List Int) (x3 : List Int) (x4 : Int) : laws_toInt64S.l0v x0 x3 x4 = if x4 < (x0.length : Int) then (if 0 ≤ x4 then (if x4 < (x3.length : Int) then (laws_toInt64S.l0v x0 (x3.set (x4 : Int).toNat (rd x0 x4)) (wrap64 (x4 + 1))) else (none)) else (none)) else (some x3) := by
  refine lim_step (laws_toInt64S.l0_mono x0 x3 x4) (fun k => by rw [laws_toInt64S.l0]) (f := fun k => if x4 < (x0.length : Int) then (if 0 ≤ x4 then (if x4 < (x3.length : Int) then (laws_toInt64S.l0 k x0 (x3.set (x4 : Int).toNat (rd x0 x4)) (wrap64 (x4 + 1))) else (none)) else (none)) else (some x3)) ?_
  repeat' first
    | (with_reducible exact laws_toInt64S.l0_lim _ _ _)
    | exact Lim.const _
    | refine Lim.ite ?_ ?_
    | refine Lim.bind ?_ (fun _ => ?_)
theorem laws_toInt64S.fv_eq (l0 : List Int) : laws_toInt64S.fv l0 = if 0 ≤ (l0.length : Int) then (if ((l0.length : Int) : Int).toNat ≤ 35184372088832 then (laws_toInt64S.l0v l0 (List.replicate ((l0.length : Int) : Int).toNat 0) 0) else (none)) else (none) := by
  refine lim_now (fun k => rfl) (f := fun k => if 0 ≤ (l0.length : Int) then (if ((l0.length : Int) : Int).toNat ≤ 35184372088832 then (laws_toInt64S.l0 k l0 (List.replicate ((l0.length : Int) : Int).toNat 0) 0) else (none)) else (none)) ?_
  repeat' first
    | (with_reducible exact laws_toInt64S.l0_lim _ _ _)
    | exact Lim.const _
    | refine Lim.ite ?_ ?_
    | refine Lim.bind ?_ (fun _ => ?_)
end Go.Proofs.Ytjjockhekaccnaa.X
namespace Go.Proofs.Ytjjockhekaccnaa.X
open Go.RowKit Go.Proofs.YtjjockhekaccnaaW.PrintWords Go.Proofs.YtjjockhekaccnaaW.PrintLast Go.Proofs.YtjjockhekaccnaaW.PrintMore
attribute [local go_sem] max2_int min2_int max_two min_two max_three min_three max_four min_four   -- for this text's walks alone
set_option linter.unusedVariables false
set_option linter.unusedSimpArgs false

open Go.Proofs.YtjjockhekaccnaaW.PrintWords
/-! ### impl_Frieze_keeps -/
theorem impl_Frieze_keeps.l0_mono (x10 : Int) (x11 : Int) (x150000 : Int) (x150001 : Int) (x150002 : List Int) (x151000 : Bool) (x151001 : Bool) (x151002 : Int) : Mono (fun k => impl_Frieze_keeps.l0 k x10 x11 x150000 x150001 x150002 x151000 x151001 x151002) := (fun k => (impl_Frieze_keeps.mono_l k).1 x10 x11 x150000 x150001 x150002 x151000 x151001 x151002)
noncomputable def impl_Frieze_keeps.l0v (x10 : Int) (x11 : Int) (x150000 : Int) (x150001 : Int) (x150002 : List Int) (x151000 : Bool) (x151001 : Bool) (x151002 : Int) : Option (Bool) := lim (fun k => impl_Frieze_keeps.l0 k x10 x11 x150000 x150001 x150002 x151000 x151001 x151002)
theorem impl_Frieze_keeps.l0_lim (x10 : Int) (x11 : Int) (x150000 : Int) (x150001 : Int) (x150002 : List Int) (x151000 : Bool) (x151001 : Bool) (x151002 : Int) : Lim (fun k => impl_Frieze_keeps.l0 k x10 x11 x150000 x150001 x150002 x151000 x151001 x151002) (impl_Frieze_keeps.l0v x10 x11 x150000 x150001 x150002 x151000 x151001 x151002) := lim_Lim (impl_Frieze_keeps.l0_mono x10 x11 x150000 x150001 x150002 x151000 x151001 x151002)
theorem impl_Frieze_keeps.l1_mono (x5 : Int) (x10 : Int) (x11 : Int) (x15 : Int) (x16 : Int) (x150000 : Int) (x150001 : Int) (x150002 : List Int) (x151000 : Bool) (x151001 : Bool) (x151002 : Int) : Mono (fun k => impl_Frieze_keeps.l1 k x5 x10 x11 x15 x16 x150000 x150001 x150002 x151000 x151001 x151002) := (fun k => (impl_Frieze_keeps.mono_l k).2 x5 x10 x11 x15 x16 x150000 x150001 x150002 x151000 x151001 x151002)
noncomputable def impl_Frieze_keeps.l1v (x5 : Int) (x10 : Int) (x11 : Int) (x15 : Int) (x16 : Int) (x150000 : Int) (x150001 : Int) (x150002 : List Int) (x151000 : Bool) (x151001 : Bool) (x151002 : Int) : Option (Bool) := lim (fun k => impl_Frieze_keeps.l1 k x5 x10 x11 x15 x16 x150000 x150001 x150002 x151000 x151001 x151002)
theorem impl_Frieze_keeps.l1_lim (x5 : Int) (x10 : Int) (x11 : Int) (x15 : Int) (x16 : Int) (x150000 : Int) (x150001 : Int) (x150002 : List Int) (x151000 : Bool) (x151001 : Bool) (x151002 : Int) : Lim (fun k => impl_Frieze_keeps.l1 k x5 x10 x11 x15 x16 x150000 x150001 x150002 x151000 x151001 x151002) (impl_Frieze_keeps.l1v x5 x10 x11 x15 x16 x150000 x150001 x150002 x151000 x151001 x151002) := lim_Lim (impl_Frieze_keeps.l1_mono x5 x10 x11 x15 x16 x150000 x150001 x150002 x151000 x151001 x151002)
theorem impl_Frieze_keeps.f_mono (a0_0 : Int) (a0_1 : Int) (l0_2 : List Int) (a1_0 : Bool) (a1_1 : Bool) (a1_2 : Int) : Mono (fun k => impl_Frieze_keeps.f k a0_0 a0_1 l0_2 a1_0 a1_1 a1_2) := (fun k => impl_Frieze_keeps.mono a0_0 a0_1 l0_2 a1_0 a1_1 a1_2 k)
noncomputable def impl_Frieze_keeps.fv (a0_0 : Int) (a0_1 : Int) (l0_2 : List Int) (a1_0 : Bool) (a1_1 : Bool) (a1_2 : Int) : Option (Bool) := lim (fun k => impl_Frieze_keeps.f k a0_0 a0_1 l0_2 a1_0 a1_1 a1_2)
theorem impl_Frieze_keeps.f_lim (a0_0 : Int) (a0_1 : Int) (l0_2 : List Int) (a1_0 : Bool) (a1_1 : Bool) (a1_2 : Int) : Lim (fun k => impl_Frieze_keeps.f k a0_0 a0_1 l0_2 a1_0 a1_1 a1_2) (impl_Frieze_keeps.fv a0_0 a0_1 l0_2 a1_0 a1_1 a1_2) := lim_Lim (impl_Frieze_keeps.f_mono a0_0 a0_1 l0_2 a1_0 a1_1 a1_2)
theorem impl_Frieze_keeps.l0v_eq (x10 : Int) (x11 : Int) (x150000 : Int) (x150001 : Int) (x150002 : List Int) (x151000 : Bool) (x151001 : Bool) (x151002 : Int) : impl_Frieze_keeps.l0v x10 x11 x150000 x150001 x150002 x151000 x151001 x151002 = if x11 < x10 then (impl_Frieze_keeps.l1v x11 x10 x11 x150001 0 x150000 x150001 x150002 x151000 x151001 x151002) else (some true) := by
  refine lim_step (impl_Frieze_keeps.l0_mono x10 x11 x150000 x150001 x150002 x151000 x151001 x151002) (fun k => by rw [impl_Frieze_keeps.l0]) (f := fun k => if x11 < x10 then (impl_Frieze_keeps.l1 k x11 x10 x11 x150001 0 x150000 x150001 x150002 x151000 x151001 x151002) else (some true)) ?_
  repeat' first
    | (with_reducible exact impl_Frieze_keeps.l1_lim _ _ _ _ _ _ _ _ _ _ _)
    | exact Lim.const _
    | refine Lim.ite ?_ ?_
    | refine Lim.bind ?_ (fun _ => ?_)
theorem impl_Frieze_keeps.l1v_eq (x5 : Int) (x10 : Int) (x11 : Int) (x15 : Int) (x16 : Int) (x150000 : Int) (x150001 : Int) (x150002 : List Int) (x151000 : Bool) (x151001 : Bool) (x151002 : Int) : impl_Frieze_keeps.l1v x5 x10 x11 x15 x16 x150000 x150001 x150002 x151000 x151001 x151002 = if x16 < x15 then ((impl_Frieze_take.f x150000 x150001 x150002 x151000 x151001 x151002 x16 x5).bind fun bt151 => ((impl_Frieze_at.f x150000 x150001 x150002 bt151.1 bt151.2).bind fun t153 => ((impl_Frieze_at.f x150000 x150001 x150002 x16 x5).bind fun t154 => (if t153 = t154 then (impl_Frieze_keeps.l1v x5 x10 x11 x15 (wrap64 (x16 + 1)) x150000 x150001 x150002 x151000 x151001 x151002) else (some false))))) else (impl_Frieze_keeps.l0v x10 (wrap64 (x11 + 1)) x150000 x150001 x150002 x151000 x151001 x151002) := by
  refine lim_step (impl_Frieze_keeps.l1_mono x5 x10 x11 x15 x16 x150000 x150001 x150002 x151000 x151001 x151002) (fun k => by rw [impl_Frieze_keeps.l1]) (f := fun k => if x16 < x15 then ((impl_Frieze_take.f x150000 x150001 x150002 x151000 x151001 x151002 x16 x5).bind fun bt151 => ((impl_Frieze_at.f x150000 x150001 x150002 bt151.1 bt151.2).bind fun t153 => ((impl_Frieze_at.f x150000 x150001 x150002 x16 x5).bind fun t154 => (if t153 = t154 then (impl_Frieze_keeps.l1 k x5 x10 x11 x15 (wrap64 (x16 + 1)) x150000 x150001 x150002 x151000 x151001 x151002) else (some false))))) else (impl_Frieze_keeps.l0 k x10 (wrap64 (x11 + 1)) x150000 x150001 x150002 x151000 x151001 x151002)) ?_
  repeat' first
    | (with_reducible exact impl_Frieze_keeps.l0_lim _ _ _ _ _ _ _ _)
    | (with_reducible exact impl_Frieze_keeps.l1_lim _ _ _ _ _ _ _ _ _ _ _)
    | exact Lim.const _
    | refine Lim.ite ?_ ?_
    | refine Lim.bind ?_ (fun _ => ?_)
theorem impl_Frieze_keeps.fv_eq (a0_0 : Int) (a0_1 : Int) (l0_2 : List Int) (a1_0 : Bool) (a1_1 : Bool) (a1_2 : Int) : impl_Frieze_keeps.fv a0_0 a0_1 l0_2 a1_0 a1_1 a1_2 = impl_Frieze_keeps.l0v a0_0 0 a0_0 a0_1 l0_2 a1_0 a1_1 a1_2 := by
  refine lim_now (fun k => rfl) (f := fun k => impl_Frieze_keeps.l0 k a0_0 0 a0_0 a0_1 l0_2 a1_0 a1_1 a1_2) ?_
  repeat' first
    | (with_reducible exact impl_Frieze_keeps.l0_lim _ _ _ _ _ _ _ _)
    | exact Lim.const _
    | refine Lim.ite ?_ ?_
    | refine Lim.bind ?_ (fun _ => ?_)
end Go.Proofs.Ytjjockhekaccnaa.X
namespace Go.Proofs.Ytjjockhekaccnaa.X
open Go.RowKit Go.Proofs.YtjjockhekaccnaaW.PrintWords Go.Proofs.YtjjockhekaccnaaW.PrintLast Go.Proofs.YtjjockhekaccnaaW.PrintMore
attribute [local go_sem] max2_int min2_int max_two min_two max_three min_three max_four min_four   -- for this text's walks alone
set_option linter.unusedVariables false
set_option linter.unusedSimpArgs false

open Go.Proofs.YtjjockhekaccnaaW.PrintWords
/-! ### impl_Frieze_period -/
theorem impl_Frieze_period.l0_mono (x3 : Int) (x156000 : Int) (x156001 : Int) (x156002 : List Int) : Mono (fun k => impl_Frieze_period.l0 k x3 x156000 x156001 x156002) := (fun k => (impl_Frieze_period.mono_l k) x3 x156000 x156001 x156002)
noncomputable def impl_Frieze_period.l0v (x3 : Int) (x156000 : Int) (x156001 : Int) (x156002 : List Int) : Option (Int) := lim (fun k => impl_Frieze_period.l0 k x3 x156000 x156001 x156002)
theorem impl_Frieze_period.l0_lim (x3 : Int) (x156000 : Int) (x156001 : Int) (x156002 : List Int) : Lim (fun k => impl_Frieze_period.l0 k x3 x156000 x156001 x156002) (impl_Frieze_period.l0v x3 x156000 x156001 x156002) := lim_Lim (impl_Frieze_period.l0_mono x3 x156000 x156001 x156002)
theorem impl_Frieze_period.f_mono (a0_0 : Int) (a0_1 : Int) (l0_2 : List Int) : Mono (fun k => impl_Frieze_period.f k a0_0 a0_1 l0_2) := (fun k => impl_Frieze_period.mono a0_0 a0_1 l0_2 k)
noncomputable def impl_Frieze_period.fv (a0_0 : Int) (a0_1 : Int) (l0_2 : List Int) : Option (Int) := lim (fun k => impl_Frieze_period.f k a0_0 a0_1 l0_2)
theorem impl_Frieze_period.f_lim (a0_0 : Int) (a0_1 : Int) (l0_2 : List Int) : Lim (fun k => impl_Frieze_period.f k a0_0 a0_1 l0_2) (impl_Frieze_period.fv a0_0 a0_1 l0_2) := lim_Lim (impl_Frieze_period.f_mono a0_0 a0_1 l0_2)
theorem impl_Frieze_period.l0v_eq (x3 : Int) (x156000 : Int) (x156001 : Int) (x156002 : List Int) : impl_Frieze_period.l0v x3 x156000 x156001 x156002 = (impl_Frieze_keeps.fv x156000 x156001 x156002 false false x3).bind fun t156 => (if t156 = true then (some x3) else (impl_Frieze_period.l0v (wrap64 (x3 + 1)) x156000 x156001 x156002)) := by
  refine lim_step (impl_Frieze_period.l0_mono x3 x156000 x156001 x156002) (fun k => by rw [impl_Frieze_period.l0]) (f := fun k => (impl_Frieze_keeps.f k x156000 x156001 x156002 false false x3).bind fun t156 => (if t156 = true then (some x3) else (impl_Frieze_period.l0 k (wrap64 (x3 + 1)) x156000 x156001 x156002))) ?_
  repeat' first
    | (with_reducible exact impl_Frieze_keeps.f_lim _ _ _ _ _ _)
    | (with_reducible exact impl_Frieze_period.l0_lim _ _ _ _)
    | exact Lim.const _
    | refine Lim.ite ?_ ?_
    | refine Lim.bind ?_ (fun _ => ?_)
theorem impl_Frieze_period.fv_eq (a0_0 : Int) (a0_1 : Int) (l0_2 : List Int) : impl_Frieze_period.fv a0_0 a0_1 l0_2 = impl_Frieze_period.l0v 1 a0_0 a0_1 l0_2 := by
  refine lim_now (fun k => rfl) (f := fun k => impl_Frieze_period.l0 k 1 a0_0 a0_1 l0_2) ?_
  repeat' first
    | (with_reducible exact impl_Frieze_period.l0_lim _ _ _ _)
    | exact Lim.const _
    | refine Lim.ite ?_ ?_
    | refine Lim.bind ?_ (fun _ => ?_)
end Go.Proofs.Ytjjockhekaccnaa.X
namespace Go.Proofs.Ytjjockhekaccnaa.X
open Go.RowKit Go.Proofs.YtjjockhekaccnaaW.PrintWords Go.Proofs.YtjjockhekaccnaaW.PrintLast Go.Proofs.YtjjockhekaccnaaW.PrintMore
attribute [local go_sem] max2_int min2_int max_two min_two max_three min_three max_four min_four   -- for this text's walks alone
set_option linter.unusedVariables false
set_option linter.unusedSimpArgs false

open Go.Proofs.YtjjockhekaccnaaW.PrintWords
/-! ### spec_l01Within -/
theorem spec_l01Within.l0_mono (x0 : List Int) (x1 : Int) (x2 : Int) (x3 : Int) (x9 : Int) : Mono (fun k => spec_l01Within.l0 k x0 x1 x2 x3 x9) := (fun k => (spec_l01Within.mono_l k) x0 x1 x2 x3 x9)
noncomputable def spec_l01Within.l0v (x0 : List Int) (x1 : Int) (x2 : Int) (x3 : Int) (x9 : Int) : Option (Bool) := lim (fun k => spec_l01Within.l0 k x0 x1 x2 x3 x9)
theorem spec_l01Within.l0_lim (x0 : List Int) (x1 : Int) (x2 : Int) (x3 : Int) (x9 : Int) : Lim (fun k => spec_l01Within.l0 k x0 x1 x2 x3 x9) (spec_l01Within.l0v x0 x1 x2 x3 x9) := lim_Lim (spec_l01Within.l0_mono x0 x1 x2 x3 x9)
theorem spec_l01Within.f_mono (l0 : List Int) (a1 : Int) (a2 : Int) (a3 : Int) : Mono (fun k => spec_l01Within.f k l0 a1 a2 a3) := (fun k => spec_l01Within.mono l0 a1 a2 a3 k)
noncomputable def spec_l01Within.fv (l0 : List Int) (a1 : Int) (a2 : Int) (a3 : Int) : Option (Bool) := lim (fun k => spec_l01Within.f k l0 a1 a2 a3)
theorem spec_l01Within.f_lim (l0 : List Int) (a1 : Int) (a2 : Int) (a3 : Int) : Lim (fun k => spec_l01Within.f k l0 a1 a2 a3) (spec_l01Within.fv l0 a1 a2 a3) := lim_Lim (spec_l01Within.f_mono l0 a1 a2 a3)
theorem spec_l01Within.l0v_eq (x0 : List Int) (x1 : Int) (x2 : Int) (x3 : Int) (x9 : Int) : spec_l01Within.l0v x0 x1 x2 x3 x9 = if x9 < (x0.length : Int) then (if 0 ≤ x9 then ((spec_l01In.f (rd x0 x9) x2 x3).bind fun t104 => (if t104 = true then (spec_l01Within.l0v x0 x1 x2 x3 (wrap64 (x9 + 1))) else (some false))) else (none)) else (some (decide ((x0.length : Int) ≤ x1))) := by
  refine lim_step (spec_l01Within.l0_mono x0 x1 x2 x3 x9) (fun k => by rw [spec_l01Within.l0]) (f := fun k => if x9 < (x0.length : Int) then (if 0 ≤ x9 then ((spec_l01In.f (rd x0 x9) x2 x3).bind fun t104 => (if t104 = true then (spec_l01Within.l0 k x0 x1 x2 x3 (wrap64 (x9 + 1))) else (some false))) else (none)) else (some (decide ((x0.length : Int) ≤ x1)))) ?_
  repeat' first
    | (with_reducible exact spec_l01Within.l0_lim _ _ _ _ _)
    | exact Lim.const _
    | refine Lim.ite ?_ ?_
    | refine Lim.bind ?_ (fun _ => ?_)
theorem spec_l01Within.fv_eq (l0 : List Int) (a1 : Int) (a2 : Int) (a3 : Int) : spec_l01Within.fv l0 a1 a2 a3 = spec_l01Within.l0v l0 a1 a2 a3 0 := by
  refine lim_now (fun k => rfl) (f := fun k => spec_l01Within.l0 k l0 a1 a2 a3 0) ?_
  repeat' first
    | (with_reducible exact spec_l01Within.l0_lim _ _ _ _ _)
    | exact Lim.const _
    | refine Lim.ite ?_ ?_
    | refine Lim.bind ?_ (fun _ => ?_)
end Go.Proofs.Ytjjockhekaccnaa.X
namespace Go.Proofs.Ytjjockhekaccnaa.X
open Go.RowKit Go.Proofs.YtjjockhekaccnaaW.PrintWords Go.Proofs.YtjjockhekaccnaaW.PrintLast Go.Proofs.YtjjockhekaccnaaW.PrintMore
attribute [local go_sem] max2_int min2_int max_two min_two max_three min_three max_four min_four   -- for this text's walks alone
set_option linter.unusedVariables false
set_option linter.unusedSimpArgs false

open Go.Proofs.YtjjockhekaccnaaW.PrintWords
/-! ### spec_IsFrieze -/
theorem spec_IsFrieze.f_mono (a0_0 : Int) (a0_1 : Int) (l0_2 : List Int) : Mono (fun k => spec_IsFrieze.f k a0_0 a0_1 l0_2) := (fun k => spec_IsFrieze.mono a0_0 a0_1 l0_2 k)
noncomputable def spec_IsFrieze.fv (a0_0 : Int) (a0_1 : Int) (l0_2 : List Int) : Option (Bool) := lim (fun k => spec_IsFrieze.f k a0_0 a0_1 l0_2)
theorem spec_IsFrieze.f_lim (a0_0 : Int) (a0_1 : Int) (l0_2 : List Int) : Lim (fun k => spec_IsFrieze.f k a0_0 a0_1 l0_2) (spec_IsFrieze.fv a0_0 a0_1 l0_2) := lim_Lim (spec_IsFrieze.f_mono a0_0 a0_1 l0_2)
theorem spec_IsFrieze.fv_eq (a0_0 : Int) (a0_1 : Int) (l0_2 : List Int) : spec_IsFrieze.fv a0_0 a0_1 l0_2 = (spec_l01In.f a0_0 1 6).bind fun t106 => (if t106 = true then ((spec_l01In.f a0_1 1 24).bind fun t107 => (if t107 = true then (if (l0_2.length : Int) = (wrap64 (a0_0 * a0_1)) then ((spec_l01Within.fv l0_2 144 0 9).bind fun t108 => (some t108)) else (some false)) else (some false))) else (some false)) := by
  refine lim_now (fun k => rfl) (f := fun k => (spec_l01In.f a0_0 1 6).bind fun t106 => (if t106 = true then ((spec_l01In.f a0_1 1 24).bind fun t107 => (if t107 = true then (if (l0_2.length : Int) = (wrap64 (a0_0 * a0_1)) then ((spec_l01Within.f k l0_2 144 0 9).bind fun t108 => (some t108)) else (some false)) else (some false))) else (some false))) ?_
  repeat' first
    | (with_reducible exact spec_l01Within.f_lim _ _ _ _)
    | exact Lim.const _
    | refine Lim.ite ?_ ?_
    | refine Lim.bind ?_ (fun _ => ?_)
end Go.Proofs.Ytjjockhekaccnaa.X
namespace Go.Proofs.Ytjjockhekaccnaa.X
open Go.RowKit Go.Proofs.YtjjockhekaccnaaW.PrintWords Go.Proofs.YtjjockhekaccnaaW.PrintLast Go.Proofs.YtjjockhekaccnaaW.PrintMore
attribute [local go_sem] max2_int min2_int max_two min_two max_three min_three max_four min_four   -- for this text's walks alone
set_option linter.unusedVariables false
set_option linter.unusedSimpArgs false

open Go.Proofs.YtjjockhekaccnaaW.PrintWords
/-! ### spec_l08Keeps -/
theorem spec_l08Keeps.l0_mono (x5 : Int) (x115000 : Int) (x115001 : Int) (x115002 : List Int) (x116000 : Bool) (x116001 : Bool) (x116002 : Int) : Mono (fun k => spec_l08Keeps.l0 k x5 x115000 x115001 x115002 x116000 x116001 x116002) := (fun k => (spec_l08Keeps.mono_l k).1 x5 x115000 x115001 x115002 x116000 x116001 x116002)
noncomputable def spec_l08Keeps.l0v (x5 : Int) (x115000 : Int) (x115001 : Int) (x115002 : List Int) (x116000 : Bool) (x116001 : Bool) (x116002 : Int) : Option (Bool) := lim (fun k => spec_l08Keeps.l0 k x5 x115000 x115001 x115002 x116000 x116001 x116002)
theorem spec_l08Keeps.l0_lim (x5 : Int) (x115000 : Int) (x115001 : Int) (x115002 : List Int) (x116000 : Bool) (x116001 : Bool) (x116002 : Int) : Lim (fun k => spec_l08Keeps.l0 k x5 x115000 x115001 x115002 x116000 x116001 x116002) (spec_l08Keeps.l0v x5 x115000 x115001 x115002 x116000 x116001 x116002) := lim_Lim (spec_l08Keeps.l0_mono x5 x115000 x115001 x115002 x116000 x116001 x116002)
theorem spec_l08Keeps.l1_mono (x5 : Int) (x6 : Int) (x115000 : Int) (x115001 : Int) (x115002 : List Int) (x116000 : Bool) (x116001 : Bool) (x116002 : Int) : Mono (fun k => spec_l08Keeps.l1 k x5 x6 x115000 x115001 x115002 x116000 x116001 x116002) := (fun k => (spec_l08Keeps.mono_l k).2 x5 x6 x115000 x115001 x115002 x116000 x116001 x116002)
noncomputable def spec_l08Keeps.l1v (x5 : Int) (x6 : Int) (x115000 : Int) (x115001 : Int) (x115002 : List Int) (x116000 : Bool) (x116001 : Bool) (x116002 : Int) : Option (Bool) := lim (fun k => spec_l08Keeps.l1 k x5 x6 x115000 x115001 x115002 x116000 x116001 x116002)
theorem spec_l08Keeps.l1_lim (x5 : Int) (x6 : Int) (x115000 : Int) (x115001 : Int) (x115002 : List Int) (x116000 : Bool) (x116001 : Bool) (x116002 : Int) : Lim (fun k => spec_l08Keeps.l1 k x5 x6 x115000 x115001 x115002 x116000 x116001 x116002) (spec_l08Keeps.l1v x5 x6 x115000 x115001 x115002 x116000 x116001 x116002) := lim_Lim (spec_l08Keeps.l1_mono x5 x6 x115000 x115001 x115002 x116000 x116001 x116002)
theorem spec_l08Keeps.f_mono (a0_0 : Int) (a0_1 : Int) (l0_2 : List Int) (a1_0 : Bool) (a1_1 : Bool) (a1_2 : Int) : Mono (fun k => spec_l08Keeps.f k a0_0 a0_1 l0_2 a1_0 a1_1 a1_2) := (fun k => spec_l08Keeps.mono a0_0 a0_1 l0_2 a1_0 a1_1 a1_2 k)
noncomputable def spec_l08Keeps.fv (a0_0 : Int) (a0_1 : Int) (l0_2 : List Int) (a1_0 : Bool) (a1_1 : Bool) (a1_2 : Int) : Option (Bool) := lim (fun k => spec_l08Keeps.f k a0_0 a0_1 l0_2 a1_0 a1_1 a1_2)
theorem spec_l08Keeps.f_lim (a0_0 : Int) (a0_1 : Int) (l0_2 : List Int) (a1_0 : Bool) (a1_1 : Bool) (a1_2 : Int) : Lim (fun k => spec_l08Keeps.f k a0_0 a0_1 l0_2 a1_0 a1_1 a1_2) (spec_l08Keeps.fv a0_0 a0_1 l0_2 a1_0 a1_1 a1_2) := lim_Lim (spec_l08Keeps.f_mono a0_0 a0_1 l0_2 a1_0 a1_1 a1_2)
theorem spec_l08Keeps.l0v_eq (x5 : Int) (x115000 : Int) (x115001 : Int) (x115002 : List Int) (x116000 : Bool) (x116001 : Bool) (x116002 : Int) : spec_l08Keeps.l0v x5 x115000 x115001 x115002 x116000 x116001 x116002 = if x5 < x115000 then (spec_l08Keeps.l1v x5 0 x115000 x115001 x115002 x116000 x116001 x116002) else (some true) := by
  refine lim_step (spec_l08Keeps.l0_mono x5 x115000 x115001 x115002 x116000 x116001 x116002) (fun k => by rw [spec_l08Keeps.l0]) (f := fun k => if x5 < x115000 then (spec_l08Keeps.l1 k x5 0 x115000 x115001 x115002 x116000 x116001 x116002) else (some true)) ?_
  repeat' first
    | (with_reducible exact spec_l08Keeps.l1_lim _ _ _ _ _ _ _ _)
    | exact Lim.const _
    | refine Lim.ite ?_ ?_
    | refine Lim.bind ?_ (fun _ => ?_)
theorem spec_l08Keeps.l1v_eq (x5 : Int) (x6 : Int) (x115000 : Int) (x115001 : Int) (x115002 : List Int) (x116000 : Bool) (x116001 : Bool) (x116002 : Int) : spec_l08Keeps.l1v x5 x6 x115000 x115001 x115002 x116000 x116001 x116002 = if x6 < x115001 then ((spec_l08Image.f x115000 x115001 x115002 x116000 x116001 x116002 x6 x5).bind fun bt116 => ((spec_l08At.f x115000 x115001 x115002 bt116.1 bt116.2).bind fun t118 => ((spec_l08At.f x115000 x115001 x115002 x6 x5).bind fun t119 => (if t118 = t119 then (spec_l08Keeps.l1v x5 (wrap64 (x6 + 1)) x115000 x115001 x115002 x116000 x116001 x116002) else (some false))))) else (spec_l08Keeps.l0v (wrap64 (x5 + 1)) x115000 x115001 x115002 x116000 x116001 x116002) := by
  refine lim_step (spec_l08Keeps.l1_mono x5 x6 x115000 x115001 x115002 x116000 x116001 x116002) (fun k => by rw [spec_l08Keeps.l1]) (f := fun k => if x6 < x115001 then ((spec_l08Image.f x115000 x115001 x115002 x116000 x116001 x116002 x6 x5).bind fun bt116 => ((spec_l08At.f x115000 x115001 x115002 bt116.1 bt116.2).bind fun t118 => ((spec_l08At.f x115000 x115001 x115002 x6 x5).bind fun t119 => (if t118 = t119 then (spec_l08Keeps.l1 k x5 (wrap64 (x6 + 1)) x115000 x115001 x115002 x116000 x116001 x116002) else (some false))))) else (spec_l08Keeps.l0 k (wrap64 (x5 + 1)) x115000 x115001 x115002 x116000 x116001 x116002)) ?_
  repeat' first
    | (with_reducible exact spec_l08Keeps.l0_lim _ _ _ _ _ _ _)
    | (with_reducible exact spec_l08Keeps.l1_lim _ _ _ _ _ _ _ _)
    | exact Lim.const _
    | refine Lim.ite ?_ ?_
    | refine Lim.bind ?_ (fun _ => ?_)
theorem spec_l08Keeps.fv_eq (a0_0 : Int) (a0_1 : Int) (l0_2 : List Int) (a1_0 : Bool) (a1_1 : Bool) (a1_2 : Int) : spec_l08Keeps.fv a0_0 a0_1 l0_2 a1_0 a1_1 a1_2 = spec_l08Keeps.l0v 0 a0_0 a0_1 l0_2 a1_0 a1_1 a1_2 := by
  refine lim_now (fun k => rfl) (f := fun k => spec_l08Keeps.l0 k 0 a0_0 a0_1 l0_2 a1_0 a1_1 a1_2) ?_
  repeat' first
    | (with_reducible exact spec_l08Keeps.l0_lim _ _ _ _ _ _ _)
    | exact Lim.const _
    | refine Lim.ite ?_ ?_
    | refine Lim.bind ?_ (fun _ => ?_)
end Go.Proofs.Ytjjockhekaccnaa.X
namespace Go.Proofs.Ytjjockhekaccnaa.X
open Go.RowKit Go.Proofs.YtjjockhekaccnaaW.PrintWords Go.Proofs.YtjjockhekaccnaaW.PrintLast Go.Proofs.YtjjockhekaccnaaW.PrintMore
attribute [local go_sem] max2_int min2_int max_two min_two max_three min_three max_four min_four   -- for this text's walks alone
set_option linter.unusedVariables false
set_option linter.unusedSimpArgs false

open Go.Proofs.YtjjockhekaccnaaW.PrintWords
/-! ### spec_l08Period -/
theorem spec_l08Period.l0_mono (x3 : Int) (x121000 : Int) (x121001 : Int) (x121002 : List Int) : Mono (fun k => spec_l08Period.l0 k x3 x121000 x121001 x121002) := (fun k => (spec_l08Period.mono_l k) x3 x121000 x121001 x121002)
noncomputable def spec_l08Period.l0v (x3 : Int) (x121000 : Int) (x121001 : Int) (x121002 : List Int) : Option (Int) := lim (fun k => spec_l08Period.l0 k x3 x121000 x121001 x121002)
theorem spec_l08Period.l0_lim (x3 : Int) (x121000 : Int) (x121001 : Int) (x121002 : List Int) : Lim (fun k => spec_l08Period.l0 k x3 x121000 x121001 x121002) (spec_l08Period.l0v x3 x121000 x121001 x121002) := lim_Lim (spec_l08Period.l0_mono x3 x121000 x121001 x121002)
theorem spec_l08Period.f_mono (a0_0 : Int) (a0_1 : Int) (l0_2 : List Int) : Mono (fun k => spec_l08Period.f k a0_0 a0_1 l0_2) := (fun k => spec_l08Period.mono a0_0 a0_1 l0_2 k)
noncomputable def spec_l08Period.fv (a0_0 : Int) (a0_1 : Int) (l0_2 : List Int) : Option (Int) := lim (fun k => spec_l08Period.f k a0_0 a0_1 l0_2)
theorem spec_l08Period.f_lim (a0_0 : Int) (a0_1 : Int) (l0_2 : List Int) : Lim (fun k => spec_l08Period.f k a0_0 a0_1 l0_2) (spec_l08Period.fv a0_0 a0_1 l0_2) := lim_Lim (spec_l08Period.f_mono a0_0 a0_1 l0_2)
theorem spec_l08Period.l0v_eq (x3 : Int) (x121000 : Int) (x121001 : Int) (x121002 : List Int) : spec_l08Period.l0v x3 x121000 x121001 x121002 = (spec_l08Keeps.fv x121000 x121001 x121002 false false x3).bind fun t121 => (if t121 = true then (some x3) else (spec_l08Period.l0v (wrap64 (x3 + 1)) x121000 x121001 x121002)) := by
  refine lim_step (spec_l08Period.l0_mono x3 x121000 x121001 x121002) (fun k => by rw [spec_l08Period.l0]) (f := fun k => (spec_l08Keeps.f k x121000 x121001 x121002 false false x3).bind fun t121 => (if t121 = true then (some x3) else (spec_l08Period.l0 k (wrap64 (x3 + 1)) x121000 x121001 x121002))) ?_
  repeat' first
    | (with_reducible exact spec_l08Keeps.f_lim _ _ _ _ _ _)
    | (with_reducible exact spec_l08Period.l0_lim _ _ _ _)
    | exact Lim.const _
    | refine Lim.ite ?_ ?_
    | refine Lim.bind ?_ (fun _ => ?_)
theorem spec_l08Period.fv_eq (a0_0 : Int) (a0_1 : Int) (l0_2 : List Int) : spec_l08Period.fv a0_0 a0_1 l0_2 = spec_l08Period.l0v 1 a0_0 a0_1 l0_2 := by
  refine lim_now (fun k => rfl) (f := fun k => spec_l08Period.l0 k 1 a0_0 a0_1 l0_2) ?_
  repeat' first
    | (with_reducible exact spec_l08Period.l0_lim _ _ _ _)
    | exact Lim.const _
    | refine Lim.ite ?_ ?_
    | refine Lim.bind ?_ (fun _ => ?_)
end Go.Proofs.Ytjjockhekaccnaa.X
namespace Go.Proofs.Ytjjockhekaccnaa.X
open Go.RowKit Go.Proofs.YtjjockhekaccnaaW.PrintWords Go.Proofs.YtjjockhekaccnaaW.PrintLast Go.Proofs.YtjjockhekaccnaaW.PrintMore
attribute [local go_sem] max2_int min2_int max_two min_two max_three min_three max_four min_four   -- for this text's walks alone
set_option linter.unusedVariables false
set_option linter.unusedSimpArgs false

open Go.Proofs.YtjjockhekaccnaaW.PrintWords
/-! ### laws_eqPattern -/
theorem laws_eqPattern.f_mono (a0_0 : Int) (a0_1 : Int) (a0_2 : Int) (a0_3 : Int) (l0_4 : List Int) (a1_0 : Int) (a1_1 : Int) (a1_2 : Int) (a1_3 : Int) (l1_4 : List Int) : Mono (fun k => laws_eqPattern.f k a0_0 a0_1 a0_2 a0_3 l0_4 a1_0 a1_1 a1_2 a1_3 l1_4) := (fun k => laws_eqPattern.mono a0_0 a0_1 a0_2 a0_3 l0_4 a1_0 a1_1 a1_2 a1_3 l1_4 k)
noncomputable def laws_eqPattern.fv (a0_0 : Int) (a0_1 : Int) (a0_2 : Int) (a0_3 : Int) (l0_4 : List Int) (a1_0 : Int) (a1_1 : Int) (a1_2 : Int) (a1_3 : Int) (l1_4 : List Int) : Option (Bool) := lim (fun k => laws_eqPattern.f k a0_0 a0_1 a0_2 a0_3 l0_4 a1_0 a1_1 a1_2 a1_3 l1_4)
theorem laws_eqPattern.f_lim (a0_0 : Int) (a0_1 : Int) (a0_2 : Int) (a0_3 : Int) (l0_4 : List Int) (a1_0 : Int) (a1_1 : Int) (a1_2 : Int) (a1_3 : Int) (l1_4 : List Int) : Lim (fun k => laws_eqPattern.f k a0_0 a0_1 a0_2 a0_3 l0_4 a1_0 a1_1 a1_2 a1_3 l1_4) (laws_eqPattern.fv a0_0 a0_1 a0_2 a0_3 l0_4 a1_0 a1_1 a1_2 a1_3 l1_4) := lim_Lim (laws_eqPattern.f_mono a0_0 a0_1 a0_2 a0_3 l0_4 a1_0 a1_1 a1_2 a1_3 l1_4)
theorem laws_eqPattern.fv_eq (a0_0 : Int) (a0_1 : Int) (a0_2 : Int) (a0_3 : Int) (l0_4 : List Int) (a1_0 : Int) (a1_1 : Int) (a1_2 : Int) (a1_3 : Int) (l1_4 : List Int) : laws_eqPattern.fv a0_0 a0_1 a0_2 a0_3 l0_4 a1_0 a1_1 a1_2 a1_3 l1_4 = if a0_0 = a1_0 then ((laws_eqLattice.f a0_1 a0_2 a0_3 a1_1 a1_2 a1_3).bind fun t995 => (if t995 = true then ((laws_eqInt64S.fv l0_4 l1_4).bind fun t996 => (if t996 = true then (some true) else (some false))) else (some false))) else (some false) := by
  refine lim_now (fun k => rfl) (f := fun k => if a0_0 = a1_0 then ((laws_eqLattice.f a0_1 a0_2 a0_3 a1_1 a1_2 a1_3).bind fun t995 => (if t995 = true then ((laws_eqInt64S.f k l0_4 l1_4).bind fun t996 => (if t996 = true then (some true) else (some false))) else (some false))) else (some false)) ?_
  repeat' first
    | (with_reducible exact laws_eqInt64S.f_lim _ _)
    | exact Lim.const _
    | refine Lim.ite ?_ ?_
    | refine Lim.bind ?_ (fun _ => ?_)
end Go.Proofs.Ytjjockhekaccnaa.X
namespace Go.Proofs.Ytjjockhekaccnaa.X
open Go.RowKit Go.Proofs.YtjjockhekaccnaaW.PrintWords Go.Proofs.YtjjockhekaccnaaW.PrintLast Go.Proofs.YtjjockhekaccnaaW.PrintMore
attribute [local go_sem] max2_int min2_int max_two min_two max_three min_three max_four min_four   -- for this text's walks alone
set_option linter.unusedVariables false
set_option linter.unusedSimpArgs false

open Go.Proofs.YtjjockhekaccnaaW.PrintWords
/-! ### laws_toPattern -/
theorem laws_toPattern.f_mono (a0_0 : Int) (a0_1 : Int) (a0_2 : Int) (a0_3 : Int) (l0_4 : List Int) : Mono (fun k => laws_toPattern.f k a0_0 a0_1 a0_2 a0_3 l0_4) := (fun k => laws_toPattern.mono a0_0 a0_1 a0_2 a0_3 l0_4 k)
noncomputable def laws_toPattern.fv (a0_0 : Int) (a0_1 : Int) (a0_2 : Int) (a0_3 : Int) (l0_4 : List Int) : Option (Int × Int × Int × Int × List Int) := lim (fun k => laws_toPattern.f k a0_0 a0_1 a0_2 a0_3 l0_4)
theorem laws_toPattern.f_lim (a0_0 : Int) (a0_1 : Int) (a0_2 : Int) (a0_3 : Int) (l0_4 : List Int) : Lim (fun k => laws_toPattern.f k a0_0 a0_1 a0_2 a0_3 l0_4) (laws_toPattern.fv a0_0 a0_1 a0_2 a0_3 l0_4) := lim_Lim (laws_toPattern.f_mono a0_0 a0_1 a0_2 a0_3 l0_4)
theorem laws_toPattern.fv_eq (a0_0 : Int) (a0_1 : Int) (a0_2 : Int) (a0_3 : Int) (l0_4 : List Int) : laws_toPattern.fv a0_0 a0_1 a0_2 a0_3 l0_4 = (laws_toLattice.f a0_1 a0_2 a0_3).bind fun bt956 => ((laws_toInt64S.fv l0_4).bind fun t959 => (some (a0_0, bt956.1, bt956.2.1, bt956.2.2, t959))) := by
  refine lim_now (fun k => rfl) (f := fun k => (laws_toLattice.f a0_1 a0_2 a0_3).bind fun bt956 => ((laws_toInt64S.f k l0_4).bind fun t959 => (some (a0_0, bt956.1, bt956.2.1, bt956.2.2, t959)))) ?_
  repeat' first
    | (with_reducible exact laws_toInt64S.f_lim _)
    | exact Lim.const _
    | refine Lim.ite ?_ ?_
    | refine Lim.bind ?_ (fun _ => ?_)
end Go.Proofs.Ytjjockhekaccnaa.X
namespace Go.Proofs.Ytjjockhekaccnaa.X
open Go.RowKit Go.Proofs.YtjjockhekaccnaaW.PrintWords Go.Proofs.YtjjockhekaccnaaW.PrintLast Go.Proofs.YtjjockhekaccnaaW.PrintMore
attribute [local go_sem] max2_int min2_int max_two min_two max_three min_three max_four min_four   -- for this text's walks alone
set_option linter.unusedVariables false
set_option linter.unusedSimpArgs false

open Go.Proofs.YtjjockhekaccnaaW.PrintWords
/-! ### spec_IsPattern -/
theorem spec_IsPattern.f_mono (a0_0 : Int) (a0_1 : Int) (a0_2 : Int) (a0_3 : Int) (l0_4 : List Int) : Mono (fun k => spec_IsPattern.f k a0_0 a0_1 a0_2 a0_3 l0_4) := (fun k => spec_IsPattern.mono a0_0 a0_1 a0_2 a0_3 l0_4 k)
noncomputable def spec_IsPattern.fv (a0_0 : Int) (a0_1 : Int) (a0_2 : Int) (a0_3 : Int) (l0_4 : List Int) : Option (Bool) := lim (fun k => spec_IsPattern.f k a0_0 a0_1 a0_2 a0_3 l0_4)
theorem spec_IsPattern.f_lim (a0_0 : Int) (a0_1 : Int) (a0_2 : Int) (a0_3 : Int) (l0_4 : List Int) : Lim (fun k => spec_IsPattern.f k a0_0 a0_1 a0_2 a0_3 l0_4) (spec_IsPattern.fv a0_0 a0_1 a0_2 a0_3 l0_4) := lim_Lim (spec_IsPattern.f_mono a0_0 a0_1 a0_2 a0_3 l0_4)
theorem spec_IsPattern.fv_eq (a0_0 : Int) (a0_1 : Int) (a0_2 : Int) (a0_3 : Int) (l0_4 : List Int) : spec_IsPattern.fv a0_0 a0_1 a0_2 a0_3 l0_4 = (spec_l04Code.f a0_0 a0_1 a0_2 a0_3).bind fun t942 => (if t942 = 0 then (if (l0_4.length : Int) = (wrap64 (a0_1 * a0_3)) then ((spec_l01Within.fv l0_4 64 0 9).bind fun t943 => (some t943)) else (some false)) else (some false)) := by
  refine lim_now (fun k => rfl) (f := fun k => (spec_l04Code.f a0_0 a0_1 a0_2 a0_3).bind fun t942 => (if t942 = 0 then (if (l0_4.length : Int) = (wrap64 (a0_1 * a0_3)) then ((spec_l01Within.f k l0_4 64 0 9).bind fun t943 => (some t943)) else (some false)) else (some false))) ?_
  repeat' first
    | (with_reducible exact spec_l01Within.f_lim _ _ _ _)
    | exact Lim.const _
    | refine Lim.ite ?_ ?_
    | refine Lim.bind ?_ (fun _ => ?_)
end Go.Proofs.Ytjjockhekaccnaa.X
namespace Go.Proofs.Ytjjockhekaccnaa.X
open Go.RowKit Go.Proofs.YtjjockhekaccnaaW.PrintWords Go.Proofs.YtjjockhekaccnaaW.PrintLast Go.Proofs.YtjjockhekaccnaaW.PrintMore
attribute [local go_sem] max2_int min2_int max_two min_two max_three min_three max_four min_four   -- for this text's walks alone
set_option linter.unusedVariables false
set_option linter.unusedSimpArgs false

open Go.Proofs.YtjjockhekaccnaaW.PrintWords
/-! ### laws_heldPattern -/
theorem laws_heldPattern.f_mono (a0_0 : Int) (a0_1 : Int) (a0_2 : Int) (a0_3 : Int) (l0_4 : List Int) (a1 : Int) : Mono (fun k => laws_heldPattern.f k a0_0 a0_1 a0_2 a0_3 l0_4 a1) := (fun k => laws_heldPattern.mono a0_0 a0_1 a0_2 a0_3 l0_4 a1 k)
noncomputable def laws_heldPattern.fv (a0_0 : Int) (a0_1 : Int) (a0_2 : Int) (a0_3 : Int) (l0_4 : List Int) (a1 : Int) : Option (Int) := lim (fun k => laws_heldPattern.f k a0_0 a0_1 a0_2 a0_3 l0_4 a1)
theorem laws_heldPattern.f_lim (a0_0 : Int) (a0_1 : Int) (a0_2 : Int) (a0_3 : Int) (l0_4 : List Int) (a1 : Int) : Lim (fun k => laws_heldPattern.f k a0_0 a0_1 a0_2 a0_3 l0_4 a1) (laws_heldPattern.fv a0_0 a0_1 a0_2 a0_3 l0_4 a1) := lim_Lim (laws_heldPattern.f_mono a0_0 a0_1 a0_2 a0_3 l0_4 a1)
theorem laws_heldPattern.fv_eq (a0_0 : Int) (a0_1 : Int) (a0_2 : Int) (a0_3 : Int) (l0_4 : List Int) (a1 : Int) : laws_heldPattern.fv a0_0 a0_1 a0_2 a0_3 l0_4 a1 = (laws_heldInt64S.fv l0_4 a1).bind fun t1075 => (if t1075 < 0 then (some (-1)) else (some t1075)) := by
  refine lim_now (fun k => rfl) (f := fun k => (laws_heldInt64S.f k l0_4 a1).bind fun t1075 => (if t1075 < 0 then (some (-1)) else (some t1075))) ?_
  repeat' first
    | (with_reducible exact laws_heldInt64S.f_lim _ _)
    | exact Lim.const _
    | refine Lim.ite ?_ ?_
    | refine Lim.bind ?_ (fun _ => ?_)
end Go.Proofs.Ytjjockhekaccnaa.X
namespace Go.Proofs.Ytjjockhekaccnaa.X
open Go.RowKit Go.Proofs.YtjjockhekaccnaaW.PrintWords Go.Proofs.YtjjockhekaccnaaW.PrintLast Go.Proofs.YtjjockhekaccnaaW.PrintMore
attribute [local go_sem] max2_int min2_int max_two min_two max_three min_three max_four min_four   -- for this text's walks alone
set_option linter.unusedVariables false
set_option linter.unusedSimpArgs false

open Go.Proofs.YtjjockhekaccnaaW.PrintWords
/-! ### laws_markPattern -/
theorem laws_markPattern.f_mono (a0_0 : Int) (a0_1 : Int) (a0_2 : Int) (a0_3 : Int) (l0_4 : List Int) (a1 : Int) : Mono (fun k => laws_markPattern.f k a0_0 a0_1 a0_2 a0_3 l0_4 a1) := (fun k => laws_markPattern.mono a0_0 a0_1 a0_2 a0_3 l0_4 a1 k)
noncomputable def laws_markPattern.fv (a0_0 : Int) (a0_1 : Int) (a0_2 : Int) (a0_3 : Int) (l0_4 : List Int) (a1 : Int) : Option (Int × List Int) := lim (fun k => laws_markPattern.f k a0_0 a0_1 a0_2 a0_3 l0_4 a1)
theorem laws_markPattern.f_lim (a0_0 : Int) (a0_1 : Int) (a0_2 : Int) (a0_3 : Int) (l0_4 : List Int) (a1 : Int) : Lim (fun k => laws_markPattern.f k a0_0 a0_1 a0_2 a0_3 l0_4 a1) (laws_markPattern.fv a0_0 a0_1 a0_2 a0_3 l0_4 a1) := lim_Lim (laws_markPattern.f_mono a0_0 a0_1 a0_2 a0_3 l0_4 a1)
theorem laws_markPattern.fv_eq (a0_0 : Int) (a0_1 : Int) (a0_2 : Int) (a0_3 : Int) (l0_4 : List Int) (a1 : Int) : laws_markPattern.fv a0_0 a0_1 a0_2 a0_3 l0_4 a1 = (laws_markInt64S.fv l0_4 a1).bind fun bt1072 => (some (bt1072.1, bt1072.2)) := by
  refine lim_now (fun k => rfl) (f := fun k => (laws_markInt64S.f k l0_4 a1).bind fun bt1072 => (some (bt1072.1, bt1072.2))) ?_
  repeat' first
    | (with_reducible exact laws_markInt64S.f_lim _ _)
    | exact Lim.const _
    | refine Lim.ite ?_ ?_
    | refine Lim.bind ?_ (fun _ => ?_)
end Go.Proofs.Ytjjockhekaccnaa.X
namespace Go.Proofs.Ytjjockhekaccnaa.X
open Go.RowKit Go.Proofs.YtjjockhekaccnaaW.PrintWords Go.Proofs.YtjjockhekaccnaaW.PrintLast Go.Proofs.YtjjockhekaccnaaW.PrintMore
attribute [local go_sem] max2_int min2_int max_two min_two max_three min_three max_four min_four   -- for this text's walks alone
set_option linter.unusedVariables false
set_option linter.unusedSimpArgs false

open Go.Proofs.YtjjockhekaccnaaW.PrintWords
/-! ### impl_Pattern_mask -/
theorem impl_Pattern_mask.l0_mono (x1 : Int) (x15 : List Int) (x16 : Int) (x17 : Int) (x1053000 : Int) (x1053001 : Int) (x1053002 : Int) (x1053003 : Int) (x1053004 : List Int) : Mono (fun k => impl_Pattern_mask.l0 k x1 x15 x16 x17 x1053000 x1053001 x1053002 x1053003 x1053004) := (fun k => (impl_Pattern_mask.mono_l k) x1 x15 x16 x17 x1053000 x1053001 x1053002 x1053003 x1053004)
noncomputable def impl_Pattern_mask.l0v (x1 : Int) (x15 : List Int) (x16 : Int) (x17 : Int) (x1053000 : Int) (x1053001 : Int) (x1053002 : Int) (x1053003 : Int) (x1053004 : List Int) : Option (Int × Int × Int × Int × List Int) := lim (fun k => impl_Pattern_mask.l0 k x1 x15 x16 x17 x1053000 x1053001 x1053002 x1053003 x1053004)
theorem impl_Pattern_mask.l0_lim (x1 : Int) (x15 : List Int) (x16 : Int) (x17 : Int) (x1053000 : Int) (x1053001 : Int) (x1053002 : Int) (x1053003 : Int) (x1053004 : List Int) : Lim (fun k => impl_Pattern_mask.l0 k x1 x15 x16 x17 x1053000 x1053001 x1053002 x1053003 x1053004) (impl_Pattern_mask.l0v x1 x15 x16 x17 x1053000 x1053001 x1053002 x1053003 x1053004) := lim_Lim (impl_Pattern_mask.l0_mono x1 x15 x16 x17 x1053000 x1053001 x1053002 x1053003 x1053004)
theorem impl_Pattern_mask.f_mono (a0_0 : Int) (a0_1 : Int) (a0_2 : Int) (a0_3 : Int) (l0_4 : List Int) (a1 : Int) : Mono (fun k => impl_Pattern_mask.f k a0_0 a0_1 a0_2 a0_3 l0_4 a1) := (fun k => impl_Pattern_mask.mono a0_0 a0_1 a0_2 a0_3 l0_4 a1 k)
noncomputable def impl_Pattern_mask.fv (a0_0 : Int) (a0_1 : Int) (a0_2 : Int) (a0_3 : Int) (l0_4 : List Int) (a1 : Int) : Option (Int × Int × Int × Int × List Int) := lim (fun k => impl_Pattern_mask.f k a0_0 a0_1 a0_2 a0_3 l0_4 a1)
theorem impl_Pattern_mask.f_lim (a0_0 : Int) (a0_1 : Int) (a0_2 : Int) (a0_3 : Int) (l0_4 : List Int) (a1 : Int) : Lim (fun k => impl_Pattern_mask.f k a0_0 a0_1 a0_2 a0_3 l0_4 a1) (impl_Pattern_mask.fv a0_0 a0_1 a0_2 a0_3 l0_4 a1) := lim_Lim (impl_Pattern_mask.f_mono a0_0 a0_1 a0_2 a0_3 l0_4 a1)
theorem impl_Pattern_mask.l0v_eq (x1 : Int) (x15 : List Int) (x16 : Int) (x17 : Int) (x1053000 : Int) (x1053001 : Int) (x1053002 : Int) (x1053003 : Int) (x1053004 : List Int) : impl_Pattern_mask.l0v x1 x15 x16 x17 x1053000 x1053001 x1053002 x1053003 x1053004 = if x17 < x16 then (if 0 ≤ x17 then (if x17 < (x15.length : Int) then (if (rd x15 x17) = x1 then (if x1053004.length < 17592186044416 then (impl_Pattern_mask.l0v x1 x15 x16 (wrap64 (x17 + 1)) x1053000 x1053001 x1053002 x1053003 (x1053004 ++ [1])) else (none)) else (if x1053004.length < 17592186044416 then (impl_Pattern_mask.l0v x1 x15 x16 (wrap64 (x17 + 1)) x1053000 x1053001 x1053002 x1053003 (x1053004 ++ [0])) else (none))) else (none)) else (none)) else (some (x1053000, x1053001, x1053002, x1053003, x1053004)) := by
  refine lim_step (impl_Pattern_mask.l0_mono x1 x15 x16 x17 x1053000 x1053001 x1053002 x1053003 x1053004) (fun k => by rw [impl_Pattern_mask.l0]) (f := fun k => if x17 < x16 then (if 0 ≤ x17 then (if x17 < (x15.length : Int) then (if (rd x15 x17) = x1 then (if x1053004.length < 17592186044416 then (impl_Pattern_mask.l0 k x1 x15 x16 (wrap64 (x17 + 1)) x1053000 x1053001 x1053002 x1053003 (x1053004 ++ [1])) else (none)) else (if x1053004.length < 17592186044416 then (impl_Pattern_mask.l0 k x1 x15 x16 (wrap64 (x17 + 1)) x1053000 x1053001 x1053002 x1053003 (x1053004 ++ [0])) else (none))) else (none)) else (none)) else (some (x1053000, x1053001, x1053002, x1053003, x1053004))) ?_
  repeat' first
    | (with_reducible exact impl_Pattern_mask.l0_lim _ _ _ _ _ _ _ _ _)
    | exact Lim.const _
    | refine Lim.ite ?_ ?_
    | refine Lim.bind ?_ (fun _ => ?_)
theorem impl_Pattern_mask.fv_eq (a0_0 : Int) (a0_1 : Int) (a0_2 : Int) (a0_3 : Int) (l0_4 : List Int) (a1 : Int) : impl_Pattern_mask.fv a0_0 a0_1 a0_2 a0_3 l0_4 a1 = impl_Pattern_mask.l0v a1 l0_4 (l0_4.length : Int) 0 a0_0 a0_1 a0_2 a0_3 ([] : List Int) := by
  refine lim_now (fun k => rfl) (f := fun k => impl_Pattern_mask.l0 k a1 l0_4 (l0_4.length : Int) 0 a0_0 a0_1 a0_2 a0_3 ([] : List Int)) ?_
  repeat' first
    | (with_reducible exact impl_Pattern_mask.l0_lim _ _ _ _ _ _ _ _ _)
    | exact Lim.const _
    | refine Lim.ite ?_ ?_
    | refine Lim.bind ?_ (fun _ => ?_)
end Go.Proofs.Ytjjockhekaccnaa.X
namespace Go.Proofs.Ytjjockhekaccnaa.X
open Go.RowKit Go.Proofs.YtjjockhekaccnaaW.PrintWords Go.Proofs.YtjjockhekaccnaaW.PrintLast Go.Proofs.YtjjockhekaccnaaW.PrintMore
attribute [local go_sem] max2_int min2_int max_two min_two max_three min_three max_four min_four   -- for this text's walks alone
set_option linter.unusedVariables false
set_option linter.unusedSimpArgs false

open Go.Proofs.YtjjockhekaccnaaW.PrintWords
/-! ### spec_l25Mask -/
theorem spec_l25Mask.l0_mono (x1 : Int) (x6 : Int) (x1027000 : Int) (x1027001 : Int) (x1027002 : Int) (x1027003 : Int) (x1027004 : List Int) (x1032000 : Int) (x1032001 : Int) (x1032002 : Int) (x1032003 : Int) (x1032004 : List Int) : Mono (fun k => spec_l25Mask.l0 k x1 x6 x1027000 x1027001 x1027002 x1027003 x1027004 x1032000 x1032001 x1032002 x1032003 x1032004) := (fun k => (spec_l25Mask.mono_l k) x1 x6 x1027000 x1027001 x1027002 x1027003 x1027004 x1032000 x1032001 x1032002 x1032003 x1032004)
noncomputable def spec_l25Mask.l0v (x1 : Int) (x6 : Int) (x1027000 : Int) (x1027001 : Int) (x1027002 : Int) (x1027003 : Int) (x1027004 : List Int) (x1032000 : Int) (x1032001 : Int) (x1032002 : Int) (x1032003 : Int) (x1032004 : List Int) : Option (Int × Int × Int × Int × List Int) := lim (fun k => spec_l25Mask.l0 k x1 x6 x1027000 x1027001 x1027002 x1027003 x1027004 x1032000 x1032001 x1032002 x1032003 x1032004)
theorem spec_l25Mask.l0_lim (x1 : Int) (x6 : Int) (x1027000 : Int) (x1027001 : Int) (x1027002 : Int) (x1027003 : Int) (x1027004 : List Int) (x1032000 : Int) (x1032001 : Int) (x1032002 : Int) (x1032003 : Int) (x1032004 : List Int) : Lim (fun k => spec_l25Mask.l0 k x1 x6 x1027000 x1027001 x1027002 x1027003 x1027004 x1032000 x1032001 x1032002 x1032003 x1032004) (spec_l25Mask.l0v x1 x6 x1027000 x1027001 x1027002 x1027003 x1027004 x1032000 x1032001 x1032002 x1032003 x1032004) := lim_Lim (spec_l25Mask.l0_mono x1 x6 x1027000 x1027001 x1027002 x1027003 x1027004 x1032000 x1032001 x1032002 x1032003 x1032004)
theorem spec_l25Mask.f_mono (a0_0 : Int) (a0_1 : Int) (a0_2 : Int) (a0_3 : Int) (l0_4 : List Int) (a1 : Int) : Mono (fun k => spec_l25Mask.f k a0_0 a0_1 a0_2 a0_3 l0_4 a1) := (fun k => spec_l25Mask.mono a0_0 a0_1 a0_2 a0_3 l0_4 a1 k)
noncomputable def spec_l25Mask.fv (a0_0 : Int) (a0_1 : Int) (a0_2 : Int) (a0_3 : Int) (l0_4 : List Int) (a1 : Int) : Option (Int × Int × Int × Int × List Int) := lim (fun k => spec_l25Mask.f k a0_0 a0_1 a0_2 a0_3 l0_4 a1)
theorem spec_l25Mask.f_lim (a0_0 : Int) (a0_1 : Int) (a0_2 : Int) (a0_3 : Int) (l0_4 : List Int) (a1 : Int) : Lim (fun k => spec_l25Mask.f k a0_0 a0_1 a0_2 a0_3 l0_4 a1) (spec_l25Mask.fv a0_0 a0_1 a0_2 a0_3 l0_4 a1) := lim_Lim (spec_l25Mask.f_mono a0_0 a0_1 a0_2 a0_3 l0_4 a1)
theorem spec_l25Mask.l0v_eq (x1 : Int) (x6 : Int) (x1027000 : Int) (x1027001 : Int) (x1027002 : Int) (x1027003 : Int) (x1027004 : List Int) (x1032000 : Int) (x1032001 : Int) (x1032002 : Int) (x1032003 : Int) (x1032004 : List Int) : spec_l25Mask.l0v x1 x6 x1027000 x1027001 x1027002 x1027003 x1027004 x1032000 x1032001 x1032002 x1032003 x1032004 = if x6 < (x1027004.length : Int) then (if 0 ≤ x6 then (if (rd x1027004 x6) = x1 then (if x1032004.length < 17592186044416 then (spec_l25Mask.l0v x1 (wrap64 (x6 + 1)) x1027000 x1027001 x1027002 x1027003 x1027004 x1032000 x1032001 x1032002 x1032003 (x1032004 ++ [1])) else (none)) else (if x1032004.length < 17592186044416 then (spec_l25Mask.l0v x1 (wrap64 (x6 + 1)) x1027000 x1027001 x1027002 x1027003 x1027004 x1032000 x1032001 x1032002 x1032003 (x1032004 ++ [0])) else (none))) else (none)) else (some (x1032000, x1032001, x1032002, x1032003, x1032004)) := by
  refine lim_step (spec_l25Mask.l0_mono x1 x6 x1027000 x1027001 x1027002 x1027003 x1027004 x1032000 x1032001 x1032002 x1032003 x1032004) (fun k => by rw [spec_l25Mask.l0]) (f := fun k => if x6 < (x1027004.length : Int) then (if 0 ≤ x6 then (if (rd x1027004 x6) = x1 then (if x1032004.length < 17592186044416 then (spec_l25Mask.l0 k x1 (wrap64 (x6 + 1)) x1027000 x1027001 x1027002 x1027003 x1027004 x1032000 x1032001 x1032002 x1032003 (x1032004 ++ [1])) else (none)) else (if x1032004.length < 17592186044416 then (spec_l25Mask.l0 k x1 (wrap64 (x6 + 1)) x1027000 x1027001 x1027002 x1027003 x1027004 x1032000 x1032001 x1032002 x1032003 (x1032004 ++ [0])) else (none))) else (none)) else (some (x1032000, x1032001, x1032002, x1032003, x1032004))) ?_
  repeat' first
    | (with_reducible exact spec_l25Mask.l0_lim _ _ _ _ _ _ _ _ _ _ _ _)
    | exact Lim.const _
    | refine Lim.ite ?_ ?_
    | refine Lim.bind ?_ (fun _ => ?_)
theorem spec_l25Mask.fv_eq (a0_0 : Int) (a0_1 : Int) (a0_2 : Int) (a0_3 : Int) (l0_4 : List Int) (a1 : Int) : spec_l25Mask.fv a0_0 a0_1 a0_2 a0_3 l0_4 a1 = spec_l25Mask.l0v a1 0 a0_0 a0_1 a0_2 a0_3 l0_4 a0_0 a0_1 a0_2 a0_3 (([] : List Int)) := by
  refine lim_now (fun k => rfl) (f := fun k => spec_l25Mask.l0 k a1 0 a0_0 a0_1 a0_2 a0_3 l0_4 a0_0 a0_1 a0_2 a0_3 (([] : List Int))) ?_
  repeat' first
    | (with_reducible exact spec_l25Mask.l0_lim _ _ _ _ _ _ _ _ _ _ _ _)
    | exact Lim.const _
    | refine Lim.ite ?_ ?_
    | refine Lim.bind ?_ (fun _ => ?_)
end Go.Proofs.Ytjjockhekaccnaa.X
namespace Go.Proofs.Ytjjockhekaccnaa.X
open Go.RowKit Go.Proofs.YtjjockhekaccnaaW.PrintWords Go.Proofs.YtjjockhekaccnaaW.PrintLast Go.Proofs.YtjjockhekaccnaaW.PrintMore
attribute [local go_sem] max2_int min2_int max_two min_two max_three min_three max_four min_four   -- for this text's walks alone
set_option linter.unusedVariables false
set_option linter.unusedSimpArgs false

open Go.Proofs.YtjjockhekaccnaaW.PrintWords
/-! ### impl_MaskOf -/
theorem impl_MaskOf.f_mono (a0_0 : Int) (a0_1 : Int) (a0_2 : Int) (a0_3 : Int) (l0_4 : List Int) (a1 : Int) : Mono (fun k => impl_MaskOf.f k a0_0 a0_1 a0_2 a0_3 l0_4 a1) := (fun k => impl_MaskOf.mono a0_0 a0_1 a0_2 a0_3 l0_4 a1 k)
noncomputable def impl_MaskOf.fv (a0_0 : Int) (a0_1 : Int) (a0_2 : Int) (a0_3 : Int) (l0_4 : List Int) (a1 : Int) : Option (Int × Int × Int × Int × List Int × Int) := lim (fun k => impl_MaskOf.f k a0_0 a0_1 a0_2 a0_3 l0_4 a1)
theorem impl_MaskOf.f_lim (a0_0 : Int) (a0_1 : Int) (a0_2 : Int) (a0_3 : Int) (l0_4 : List Int) (a1 : Int) : Lim (fun k => impl_MaskOf.f k a0_0 a0_1 a0_2 a0_3 l0_4 a1) (impl_MaskOf.fv a0_0 a0_1 a0_2 a0_3 l0_4 a1) := lim_Lim (impl_MaskOf.f_mono a0_0 a0_1 a0_2 a0_3 l0_4 a1)
theorem impl_MaskOf.fv_eq (a0_0 : Int) (a0_1 : Int) (a0_2 : Int) (a0_3 : Int) (l0_4 : List Int) (a1 : Int) : impl_MaskOf.fv a0_0 a0_1 a0_2 a0_3 l0_4 a1 = (impl_IsPattern.f a0_0 a0_1 a0_2 a0_3 l0_4).bind fun t1062 => (if t1062 = true then ((impl_isInk.f a1).bind fun t1063 => (if t1063 = true then ((impl_Pattern_mask.fv a0_0 a0_1 a0_2 a0_3 l0_4 a1).bind fun bt1064 => (some (bt1064.1, bt1064.2.1, bt1064.2.2.1, bt1064.2.2.2.1, bt1064.2.2.2.2, 0))) else (some (0, 0, 0, 0, ([] : List Int), 2)))) else (some (0, 0, 0, 0, ([] : List Int), 1))) := by
  refine lim_now (fun k => rfl) (f := fun k => (impl_IsPattern.f a0_0 a0_1 a0_2 a0_3 l0_4).bind fun t1062 => (if t1062 = true then ((impl_isInk.f a1).bind fun t1063 => (if t1063 = true then ((impl_Pattern_mask.f k a0_0 a0_1 a0_2 a0_3 l0_4 a1).bind fun bt1064 => (some (bt1064.1, bt1064.2.1, bt1064.2.2.1, bt1064.2.2.2.1, bt1064.2.2.2.2, 0))) else (some (0, 0, 0, 0, ([] : List Int), 2)))) else (some (0, 0, 0, 0, ([] : List Int), 1)))) ?_
  repeat' first
    | (with_reducible exact impl_Pattern_mask.f_lim _ _ _ _ _ _)
    | exact Lim.const _
    | refine Lim.ite ?_ ?_
    | refine Lim.bind ?_ (fun _ => ?_)
end Go.Proofs.Ytjjockhekaccnaa.X
namespace Go.Proofs.Ytjjockhekaccnaa.X
open Go.RowKit Go.Proofs.YtjjockhekaccnaaW.PrintWords Go.Proofs.YtjjockhekaccnaaW.PrintLast Go.Proofs.YtjjockhekaccnaaW.PrintMore
attribute [local go_sem] max2_int min2_int max_two min_two max_three min_three max_four min_four   -- for this text's walks alone
set_option linter.unusedVariables false
set_option linter.unusedSimpArgs false

open Go.Proofs.YtjjockhekaccnaaW.PrintWords
/-! ### spec_l25Code -/
theorem spec_l25Code.f_mono (a0_0 : Int) (a0_1 : Int) (a0_2 : Int) (a0_3 : Int) (l0_4 : List Int) (a1 : Bool) : Mono (fun k => spec_l25Code.f k a0_0 a0_1 a0_2 a0_3 l0_4 a1) := (fun k => spec_l25Code.mono a0_0 a0_1 a0_2 a0_3 l0_4 a1 k)
noncomputable def spec_l25Code.fv (a0_0 : Int) (a0_1 : Int) (a0_2 : Int) (a0_3 : Int) (l0_4 : List Int) (a1 : Bool) : Option (Int) := lim (fun k => spec_l25Code.f k a0_0 a0_1 a0_2 a0_3 l0_4 a1)
theorem spec_l25Code.f_lim (a0_0 : Int) (a0_1 : Int) (a0_2 : Int) (a0_3 : Int) (l0_4 : List Int) (a1 : Bool) : Lim (fun k => spec_l25Code.f k a0_0 a0_1 a0_2 a0_3 l0_4 a1) (spec_l25Code.fv a0_0 a0_1 a0_2 a0_3 l0_4 a1) := lim_Lim (spec_l25Code.f_mono a0_0 a0_1 a0_2 a0_3 l0_4 a1)
theorem spec_l25Code.fv_eq (a0_0 : Int) (a0_1 : Int) (a0_2 : Int) (a0_3 : Int) (l0_4 : List Int) (a1 : Bool) : spec_l25Code.fv a0_0 a0_1 a0_2 a0_3 l0_4 a1 = (spec_IsPattern.fv a0_0 a0_1 a0_2 a0_3 l0_4).bind fun t945 => (if t945 = true then (if a1 = true then (some 0) else (some 2)) else (some 1)) := by
  refine lim_now (fun k => rfl) (f := fun k => (spec_IsPattern.f k a0_0 a0_1 a0_2 a0_3 l0_4).bind fun t945 => (if t945 = true then (if a1 = true then (some 0) else (some 2)) else (some 1))) ?_
  repeat' first
    | (with_reducible exact spec_IsPattern.f_lim _ _ _ _ _)
    | exact Lim.const _
    | refine Lim.ite ?_ ?_
    | refine Lim.bind ?_ (fun _ => ?_)
end Go.Proofs.Ytjjockhekaccnaa.X
namespace Go.Proofs.Ytjjockhekaccnaa.X
open Go.RowKit Go.Proofs.YtjjockhekaccnaaW.PrintWords Go.Proofs.YtjjockhekaccnaaW.PrintLast Go.Proofs.YtjjockhekaccnaaW.PrintMore
attribute [local go_sem] max2_int min2_int max_two min_two max_three min_three max_four min_four   -- for this text's walks alone
set_option linter.unusedVariables false
set_option linter.unusedSimpArgs false

open Go.Proofs.YtjjockhekaccnaaW.PrintWords
/-! ### spec_MaskOf -/
theorem spec_MaskOf.f_mono (a0_0 : Int) (a0_1 : Int) (a0_2 : Int) (a0_3 : Int) (l0_4 : List Int) (a1 : Int) : Mono (fun k => spec_MaskOf.f k a0_0 a0_1 a0_2 a0_3 l0_4 a1) := (fun k => spec_MaskOf.mono a0_0 a0_1 a0_2 a0_3 l0_4 a1 k)
noncomputable def spec_MaskOf.fv (a0_0 : Int) (a0_1 : Int) (a0_2 : Int) (a0_3 : Int) (l0_4 : List Int) (a1 : Int) : Option (Int × Int × Int × Int × List Int × Int) := lim (fun k => spec_MaskOf.f k a0_0 a0_1 a0_2 a0_3 l0_4 a1)
theorem spec_MaskOf.f_lim (a0_0 : Int) (a0_1 : Int) (a0_2 : Int) (a0_3 : Int) (l0_4 : List Int) (a1 : Int) : Lim (fun k => spec_MaskOf.f k a0_0 a0_1 a0_2 a0_3 l0_4 a1) (spec_MaskOf.fv a0_0 a0_1 a0_2 a0_3 l0_4 a1) := lim_Lim (spec_MaskOf.f_mono a0_0 a0_1 a0_2 a0_3 l0_4 a1)
theorem spec_MaskOf.fv_eq (a0_0 : Int) (a0_1 : Int) (a0_2 : Int) (a0_3 : Int) (l0_4 : List Int) (a1 : Int) : spec_MaskOf.fv a0_0 a0_1 a0_2 a0_3 l0_4 a1 = (spec_l01In.f a1 1 9).bind fun t1041 => ((spec_l25Code.fv a0_0 a0_1 a0_2 a0_3 l0_4 t1041).bind fun t1042 => (if t1042 = 0 then ((spec_l25Mask.fv a0_0 a0_1 a0_2 a0_3 l0_4 a1).bind fun bt1043 => (some (bt1043.1, bt1043.2.1, bt1043.2.2.1, bt1043.2.2.2.1, bt1043.2.2.2.2, 0))) else (some (0, 0, 0, 0, ([] : List Int), t1042)))) := by
  refine lim_now (fun k => rfl) (f := fun k => (spec_l01In.f a1 1 9).bind fun t1041 => ((spec_l25Code.f k a0_0 a0_1 a0_2 a0_3 l0_4 t1041).bind fun t1042 => (if t1042 = 0 then ((spec_l25Mask.f k a0_0 a0_1 a0_2 a0_3 l0_4 a1).bind fun bt1043 => (some (bt1043.1, bt1043.2.1, bt1043.2.2.1, bt1043.2.2.2.1, bt1043.2.2.2.2, 0))) else (some (0, 0, 0, 0, ([] : List Int), t1042))))) ?_
  repeat' first
    | (with_reducible exact spec_l25Code.f_lim _ _ _ _ _ _)
    | (with_reducible exact spec_l25Mask.f_lim _ _ _ _ _ _)
    | exact Lim.const _
    | refine Lim.ite ?_ ?_
    | refine Lim.bind ?_ (fun _ => ?_)
end Go.Proofs.Ytjjockhekaccnaa.X
namespace Go.Proofs.Ytjjockhekaccnaa.X
open Go.RowKit Go.Proofs.YtjjockhekaccnaaW.PrintWords Go.Proofs.YtjjockhekaccnaaW.PrintLast Go.Proofs.YtjjockhekaccnaaW.PrintMore
attribute [local go_sem] max2_int min2_int max_two min_two max_three min_three max_four min_four   -- for this text's walks alone
set_option linter.unusedVariables false
set_option linter.unusedSimpArgs false

open Go.Proofs.YtjjockhekaccnaaW.PrintWords
/-! ### laws_FnExactMaskOf -/
theorem laws_FnExactMaskOf.f_mono (a0_0 : Int) (a0_1 : Int) (a0_2 : Int) (a0_3 : Int) (l0_4 : List Int) (a1 : Int) : Mono (fun k => laws_FnExactMaskOf.f k a0_0 a0_1 a0_2 a0_3 l0_4 a1) := (fun k => laws_FnExactMaskOf.mono a0_0 a0_1 a0_2 a0_3 l0_4 a1 k)
noncomputable def laws_FnExactMaskOf.fv (a0_0 : Int) (a0_1 : Int) (a0_2 : Int) (a0_3 : Int) (l0_4 : List Int) (a1 : Int) : Option (Bool) := lim (fun k => laws_FnExactMaskOf.f k a0_0 a0_1 a0_2 a0_3 l0_4 a1)
theorem laws_FnExactMaskOf.f_lim (a0_0 : Int) (a0_1 : Int) (a0_2 : Int) (a0_3 : Int) (l0_4 : List Int) (a1 : Int) : Lim (fun k => laws_FnExactMaskOf.f k a0_0 a0_1 a0_2 a0_3 l0_4 a1) (laws_FnExactMaskOf.fv a0_0 a0_1 a0_2 a0_3 l0_4 a1) := lim_Lim (laws_FnExactMaskOf.f_mono a0_0 a0_1 a0_2 a0_3 l0_4 a1)
theorem laws_FnExactMaskOf.fv_eq (a0_0 : Int) (a0_1 : Int) (a0_2 : Int) (a0_3 : Int) (l0_4 : List Int) (a1 : Int) : laws_FnExactMaskOf.fv a0_0 a0_1 a0_2 a0_3 l0_4 a1 = (laws_szPattern.f a0_0 a0_1 a0_2 a0_3 l0_4 1048576).bind fun t1077 => (if t1077 < 0 then (some true) else ((laws_toPattern.fv a0_0 a0_1 a0_2 a0_3 l0_4).bind fun bt1078 => ((spec_MaskOf.fv bt1078.1 bt1078.2.1 bt1078.2.2.1 bt1078.2.2.2.1 bt1078.2.2.2.2 a1).bind fun bt1085 => ((laws_toPattern.fv a0_0 a0_1 a0_2 a0_3 l0_4).bind fun bt1094 => ((impl_MaskOf.fv bt1094.1 bt1094.2.1 bt1094.2.2.1 bt1094.2.2.2.1 bt1094.2.2.2.2 a1).bind fun bt1102 => ((laws_eqPattern.fv bt1102.1 bt1102.2.1 bt1102.2.2.1 bt1102.2.2.2.1 bt1102.2.2.2.2.1 bt1085.1 bt1085.2.1 bt1085.2.2.1 bt1085.2.2.2.1 bt1085.2.2.2.2.1).bind fun t1111 => (if t1111 = true then (if bt1102.2.2.2.2.2 = bt1085.2.2.2.2.2 then ((laws_toPattern.fv a0_0 a0_1 a0_2 a0_3 l0_4).bind fun bt1112 => ((laws_eqPattern.fv bt1094.1 bt1094.2.1 bt1094.2.2.1 bt1094.2.2.2.1 bt1094.2.2.2.2 bt1112.1 bt1112.2.1 bt1112.2.2.1 bt1112.2.2.2.1 bt1112.2.2.2.2).bind fun t1119 => (if t1119 = true then ((laws_markPattern.fv bt1094.1 bt1094.2.1 bt1094.2.2.1 bt1094.2.2.2.1 bt1094.2.2.2.2 1).bind fun bt1120 => (if bt1120.1 < 0 then (none) else ((laws_eqPattern.fv bt1102.1 bt1102.2.1 bt1102.2.2.1 bt1102.2.2.2.1 bt1102.2.2.2.2.1 bt1085.1 bt1085.2.1 bt1085.2.2.1 bt1085.2.2.2.1 bt1085.2.2.2.2.1).bind fun t1122 => (if t1122 = true then ((laws_markPattern.fv bt1102.1 bt1102.2.1 bt1102.2.2.1 bt1102.2.2.2.1 bt1102.2.2.2.2.1 1).bind fun bt1123 => ((laws_heldPattern.fv bt1102.1 bt1102.2.1 bt1102.2.2.1 bt1102.2.2.2.1 bt1123.2 1).bind fun t1125 => (if t1125 < 0 then (none) else (if t1125 = bt1123.1 then ((laws_toPattern.fv a0_0 a0_1 a0_2 a0_3 l0_4).bind fun bt1126 => ((impl_MaskOf.fv bt1126.1 bt1126.2.1 bt1126.2.2.1 bt1126.2.2.2.1 bt1126.2.2.2.2 a1).bind fun bt1133 => ((laws_eqPattern.fv bt1133.1 bt1133.2.1 bt1133.2.2.1 bt1133.2.2.2.1 bt1133.2.2.2.2.1 bt1085.1 bt1085.2.1 bt1085.2.2.1 bt1085.2.2.2.1 bt1085.2.2.2.2.1).bind fun t1142 => (if t1142 = true then (if bt1133.2.2.2.2.2 = bt1085.2.2.2.2.2 then ((laws_heldPattern.fv bt1102.1 bt1102.2.1 bt1102.2.2.1 bt1102.2.2.2.1 bt1123.2 1).bind fun t1143 => (if t1143 < 0 then (none) else (if t1143 = bt1123.1 then (some true) else (none)))) else (none)) else (none))))) else (none))))) else (none))))) else (none)))) else (none)) else (none)))))))) := by
  refine lim_now (fun k => rfl) (f := fun k => (laws_szPattern.f a0_0 a0_1 a0_2 a0_3 l0_4 1048576).bind fun t1077 => (if t1077 < 0 then (some true) else ((laws_toPattern.f k a0_0 a0_1 a0_2 a0_3 l0_4).bind fun bt1078 => ((spec_MaskOf.f k bt1078.1 bt1078.2.1 bt1078.2.2.1 bt1078.2.2.2.1 bt1078.2.2.2.2 a1).bind fun bt1085 => ((laws_toPattern.f k a0_0 a0_1 a0_2 a0_3 l0_4).bind fun bt1094 => ((impl_MaskOf.f k bt1094.1 bt1094.2.1 bt1094.2.2.1 bt1094.2.2.2.1 bt1094.2.2.2.2 a1).bind fun bt1102 => ((laws_eqPattern.f k bt1102.1 bt1102.2.1 bt1102.2.2.1 bt1102.2.2.2.1 bt1102.2.2.2.2.1 bt1085.1 bt1085.2.1 bt1085.2.2.1 bt1085.2.2.2.1 bt1085.2.2.2.2.1).bind fun t1111 => (if t1111 = true then (if bt1102.2.2.2.2.2 = bt1085.2.2.2.2.2 then ((laws_toPattern.f k a0_0 a0_1 a0_2 a0_3 l0_4).bind fun bt1112 => ((laws_eqPattern.f k bt1094.1 bt1094.2.1 bt1094.2.2.1 bt1094.2.2.2.1 bt1094.2.2.2.2 bt1112.1 bt1112.2.1 bt1112.2.2.1 bt1112.2.2.2.1 bt1112.2.2.2.2).bind fun t1119 => (if t1119 = true then ((laws_markPattern.f k bt1094.1 bt1094.2.1 bt1094.2.2.1 bt1094.2.2.2.1 bt1094.2.2.2.2 1).bind fun bt1120 => (if bt1120.1 < 0 then (none) else ((laws_eqPattern.f k bt1102.1 bt1102.2.1 bt1102.2.2.1 bt1102.2.2.2.1 bt1102.2.2.2.2.1 bt1085.1 bt1085.2.1 bt1085.2.2.1 bt1085.2.2.2.1 bt1085.2.2.2.2.1).bind fun t1122 => (if t1122 = true then ((laws_markPattern.f k bt1102.1 bt1102.2.1 bt1102.2.2.1 bt1102.2.2.2.1 bt1102.2.2.2.2.1 1).bind fun bt1123 => ((laws_heldPattern.f k bt1102.1 bt1102.2.1 bt1102.2.2.1 bt1102.2.2.2.1 bt1123.2 1).bind fun t1125 => (if t1125 < 0 then (none) else (if t1125 = bt1123.1 then ((laws_toPattern.f k a0_0 a0_1 a0_2 a0_3 l0_4).bind fun bt1126 => ((impl_MaskOf.f k bt1126.1 bt1126.2.1 bt1126.2.2.1 bt1126.2.2.2.1 bt1126.2.2.2.2 a1).bind fun bt1133 => ((laws_eqPattern.f k bt1133.1 bt1133.2.1 bt1133.2.2.1 bt1133.2.2.2.1 bt1133.2.2.2.2.1 bt1085.1 bt1085.2.1 bt1085.2.2.1 bt1085.2.2.2.1 bt1085.2.2.2.2.1).bind fun t1142 => (if t1142 = true then (if bt1133.2.2.2.2.2 = bt1085.2.2.2.2.2 then ((laws_heldPattern.f k bt1102.1 bt1102.2.1 bt1102.2.2.1 bt1102.2.2.2.1 bt1123.2 1).bind fun t1143 => (if t1143 < 0 then (none) else (if t1143 = bt1123.1 then (some true) else (none)))) else (none)) else (none))))) else (none))))) else (none))))) else (none)))) else (none)) else (none))))))))) ?_
  repeat' first
    | (with_reducible exact impl_MaskOf.f_lim _ _ _ _ _ _)
    | (with_reducible exact laws_eqPattern.f_lim _ _ _ _ _ _ _ _ _ _)
    | (with_reducible exact laws_heldPattern.f_lim _ _ _ _ _ _)
    | (with_reducible exact laws_markPattern.f_lim _ _ _ _ _ _)
    | (with_reducible exact laws_toPattern.f_lim _ _ _ _ _)
    | (with_reducible exact spec_MaskOf.f_lim _ _ _ _ _ _)
    | exact Lim.const _
    | refine Lim.ite ?_ ?_
    | refine Lim.bind ?_ (fun _ => ?_)
end Go.Proofs.Ytjjockhekaccnaa.X
