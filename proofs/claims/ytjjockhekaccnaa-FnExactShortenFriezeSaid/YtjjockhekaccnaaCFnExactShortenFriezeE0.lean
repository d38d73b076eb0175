/- Part of the proof of the law FnExactShortenFrieze: equations of the plain functions. No condition of its own. -/
import Derived.Test.YtjjockhekaccnaaCFnExactShortenFriezeD0
namespace Go.Proofs.Ytjjockhekaccnaa.X
open Go.RowKit Go.Proofs.YtjjockhekaccnaaW.PrintWords Go.Proofs.YtjjockhekaccnaaW.PrintLast Go.Proofs.YtjjockhekaccnaaW.PrintMore
attribute [local go_sem] max2_int min2_int max_two min_two max_three min_three max_four min_four   -- for this text's walks alone
set_option linter.unusedVariables false
set_option linter.unusedSimpArgs false

open Go.Proofs.YtjjockhekaccnaaW.PrintWords
/-! ### laws_eqInt64S -/
theorem laws_eqInt64S.l0_mono (x0 : List Int) (x1 : List Int) (x5 : Int) : Mono (fun k => laws_eqInt64S.l0 k x0 x1 x5) := (fun k => (laws_eqInt64S.mono_l k) x0 x1 x5)
noncomputable def laws_eqInt64S.l0v (x0 : List Int) (x1 : List Int) (x5 : Int) : Option (Bool) := lim (fun k => laws_eqInt64S.l0 k x0 x1 x5)
theorem laws_eqInt64S.l0_lim (x0 : List Int) (x1 : List Int) (x5 : Int) : Lim (fun k => laws_eqInt64S.l0 k x0 x1 x5) (laws_eqInt64S.l0v x0 x1 x5) := lim_Lim (laws_eqInt64S.l0_mono x0 x1 x5)
theorem laws_eqInt64S.f_mono (l0 : List Int) (l1 : List Int) : Mono (fun k => laws_eqInt64S.f k l0 l1) := (fun k => laws_eqInt64S.mono l0 l1 k)
noncomputable def laws_eqInt64S.fv (l0 : List Int) (l1 : List Int) : Option (Bool) := lim (fun k => laws_eqInt64S.f k l0 l1)
theorem laws_eqInt64S.f_lim (l0 : List Int) (l1 : List Int) : Lim (fun k => laws_eqInt64S.f k l0 l1) (laws_eqInt64S.fv l0 l1) := lim_Lim (laws_eqInt64S.f_mono l0 l1)
theorem laws_eqInt64S.l0v_eq (x0 : List Int) (x1 : List Int) (x5 : Int) : laws_eqInt64S.l0v x0 x1 x5 = if x5 < (x0.length : Int) then (if 0 ≤ x5 then (if x5 < (x1.length : Int) then (if (rd x0 x5) = (rd x1 x5) then (laws_eqInt64S.l0v x0 x1 (wrap64 (x5 + 1))) else (some false)) else (none)) else (none)) else (some true) := by
  refine lim_step (laws_eqInt64S.l0_mono x0 x1 x5) (fun k => by rw [laws_eqInt64S.l0]) (f := fun k => if x5 < (x0.length : Int) then (if 0 ≤ x5 then (if x5 < (x1.length : Int) then (if (rd x0 x5) = (rd x1 x5) then (laws_eqInt64S.l0 k x0 x1 (wrap64 (x5 + 1))) else (some false)) else (none)) else (none)) else (some true)) ?_
  repeat' first
    | (with_reducible exact laws_eqInt64S.l0_lim _ _ _)
    | exact Lim.const _
    | refine Lim.ite ?_ ?_
    | refine Lim.bind ?_ (fun _ => ?_)
theorem laws_eqInt64S.fv_eq (l0 : List Int) (l1 : List Int) : laws_eqInt64S.fv l0 l1 = if (l0.length : Int) = (l1.length : Int) then (laws_eqInt64S.l0v l0 l1 0) else (some false) := by
  refine lim_now (fun k => rfl) (f := fun k => if (l0.length : Int) = (l1.length : Int) then (laws_eqInt64S.l0 k l0 l1 0) else (some false)) ?_
  repeat' first
    | (with_reducible exact laws_eqInt64S.l0_lim _ _ _)
    | exact Lim.const _
    | refine Lim.ite ?_ ?_
    | refine Lim.bind ?_ (fun _ => ?_)
end Go.Proofs.Ytjjockhekaccnaa.X
namespace Go.Proofs.Ytjjockhekaccnaa.X
open Go.RowKit Go.Proofs.YtjjockhekaccnaaW.PrintWords Go.Proofs.YtjjockhekaccnaaW.PrintLast Go.Proofs.YtjjockhekaccnaaW.PrintMore
attribute [local go_sem] max2_int min2_int max_two min_two max_three min_three max_four min_four   -- for this text's walks alone
set_option linter.unusedVariables false
set_option linter.unusedSimpArgs false

open Go.Proofs.YtjjockhekaccnaaW.PrintWords
/-! ### laws_heldInt64S -/
theorem laws_heldInt64S.l0_mono (x0 : List Int) (x1 : Int) (x5 : Int) : Mono (fun k => laws_heldInt64S.l0 k x0 x1 x5) := (fun k => (laws_heldInt64S.mono_l k) x0 x1 x5)
noncomputable def laws_heldInt64S.l0v (x0 : List Int) (x1 : Int) (x5 : Int) : Option (Int) := lim (fun k => laws_heldInt64S.l0 k x0 x1 x5)
theorem laws_heldInt64S.l0_lim (x0 : List Int) (x1 : Int) (x5 : Int) : Lim (fun k => laws_heldInt64S.l0 k x0 x1 x5) (laws_heldInt64S.l0v x0 x1 x5) := lim_Lim (laws_heldInt64S.l0_mono x0 x1 x5)
theorem laws_heldInt64S.f_mono (l0 : List Int) (a1 : Int) : Mono (fun k => laws_heldInt64S.f k l0 a1) := (fun k => laws_heldInt64S.mono l0 a1 k)
noncomputable def laws_heldInt64S.fv (l0 : List Int) (a1 : Int) : Option (Int) := lim (fun k => laws_heldInt64S.f k l0 a1)
theorem laws_heldInt64S.f_lim (l0 : List Int) (a1 : Int) : Lim (fun k => laws_heldInt64S.f k l0 a1) (laws_heldInt64S.fv l0 a1) := lim_Lim (laws_heldInt64S.f_mono l0 a1)
theorem laws_heldInt64S.l0v_eq (x0 : List Int) (x1 : Int) (x5 : Int) : laws_heldInt64S.l0v x0 x1 x5 = if x5 < (x0.length : Int) then (if 0 ≤ x5 then (if (rd x0 x5) = x1 then (laws_heldInt64S.l0v x0 (wrap64 (x1 + 1)) (wrap64 (x5 + 1))) else (some (-1))) else (none)) else (some x1) := by
  refine lim_step (laws_heldInt64S.l0_mono x0 x1 x5) (fun k => by rw [laws_heldInt64S.l0]) (f := fun k => if x5 < (x0.length : Int) then (if 0 ≤ x5 then (if (rd x0 x5) = x1 then (laws_heldInt64S.l0 k x0 (wrap64 (x1 + 1)) (wrap64 (x5 + 1))) else (some (-1))) else (none)) else (some x1)) ?_
  repeat' first
    | (with_reducible exact laws_heldInt64S.l0_lim _ _ _)
    | exact Lim.const _
    | refine Lim.ite ?_ ?_
    | refine Lim.bind ?_ (fun _ => ?_)
theorem laws_heldInt64S.fv_eq (l0 : List Int) (a1 : Int) : laws_heldInt64S.fv l0 a1 = laws_heldInt64S.l0v l0 a1 0 := by
  refine lim_now (fun k => rfl) (f := fun k => laws_heldInt64S.l0 k l0 a1 0) ?_
  repeat' first
    | (with_reducible exact laws_heldInt64S.l0_lim _ _ _)
    | exact Lim.const _
    | refine Lim.ite ?_ ?_
    | refine Lim.bind ?_ (fun _ => ?_)
end Go.Proofs.Ytjjockhekaccnaa.X
namespace Go.Proofs.Ytjjockhekaccnaa.X
open Go.RowKit Go.Proofs.YtjjockhekaccnaaW.PrintWords Go.Proofs.YtjjockhekaccnaaW.PrintLast Go.Proofs.YtjjockhekaccnaaW.PrintMore
attribute [local go_sem] max2_int min2_int max_two min_two max_three min_three max_four min_four   -- for this text's walks alone
set_option linter.unusedVariables false
set_option linter.unusedSimpArgs false

open Go.Proofs.YtjjockhekaccnaaW.PrintWords
/-! ### laws_markInt64S -/
theorem laws_markInt64S.l0_mono (x0 : List Int) (x1 : Int) (x5 : Int) : Mono (fun k => laws_markInt64S.l0 k x0 x1 x5) := (fun k => (laws_markInt64S.mono_l k) x0 x1 x5)
noncomputable def laws_markInt64S.l0v (x0 : List Int) (x1 : Int) (x5 : Int) : Option (Int × List Int) := lim (fun k => laws_markInt64S.l0 k x0 x1 x5)
theorem laws_markInt64S.l0_lim (x0 : List Int) (x1 : Int) (x5 : Int) : Lim (fun k => laws_markInt64S.l0 k x0 x1 x5) (laws_markInt64S.l0v x0 x1 x5) := lim_Lim (laws_markInt64S.l0_mono x0 x1 x5)
theorem laws_markInt64S.f_mono (l0 : List Int) (a1 : Int) : Mono (fun k => laws_markInt64S.f k l0 a1) := (fun k => laws_markInt64S.mono l0 a1 k)
noncomputable def laws_markInt64S.fv (l0 : List Int) (a1 : Int) : Option (Int × List Int) := lim (fun k => laws_markInt64S.f k l0 a1)
theorem laws_markInt64S.f_lim (l0 : List Int) (a1 : Int) : Lim (fun k => laws_markInt64S.f k l0 a1) (laws_markInt64S.fv l0 a1) := lim_Lim (laws_markInt64S.f_mono l0 a1)
theorem laws_markInt64S.l0v_eq (x0 : List Int) (x1 : Int) (x5 : Int) : laws_markInt64S.l0v x0 x1 x5 = if x5 < (x0.length : Int) then (if 0 ≤ x5 then (laws_markInt64S.l0v (x0.set (x5 : Int).toNat x1) (wrap64 (x1 + 1)) (wrap64 (x5 + 1))) else (none)) else (some (x1, x0)) := by
  refine lim_step (laws_markInt64S.l0_mono x0 x1 x5) (fun k => by rw [laws_markInt64S.l0]) (f := fun k => if x5 < (x0.length : Int) then (if 0 ≤ x5 then (laws_markInt64S.l0 k (x0.set (x5 : Int).toNat x1) (wrap64 (x1 + 1)) (wrap64 (x5 + 1))) else (none)) else (some (x1, x0))) ?_
  repeat' first
    | (with_reducible exact laws_markInt64S.l0_lim _ _ _)
    | exact Lim.const _
    | refine Lim.ite ?_ ?_
    | refine Lim.bind ?_ (fun _ => ?_)
theorem laws_markInt64S.fv_eq (l0 : List Int) (a1 : Int) : laws_markInt64S.fv l0 a1 = laws_markInt64S.l0v l0 a1 0 := by
  refine lim_now (fun k => rfl) (f := fun k => laws_markInt64S.l0 k l0 a1 0) ?_
  repeat' first
    | (with_reducible exact laws_markInt64S.l0_lim _ _ _)
    | exact Lim.const _
    | refine Lim.ite ?_ ?_
    | refine Lim.bind ?_ (fun _ => ?_)
end Go.Proofs.Ytjjockhekaccnaa.X
namespace Go.Proofs.Ytjjockhekaccnaa.X
open Go.RowKit Go.Proofs.YtjjockhekaccnaaW.PrintWords Go.Proofs.YtjjockhekaccnaaW.PrintLast Go.Proofs.YtjjockhekaccnaaW.PrintMore
attribute [local go_sem] max2_int min2_int max_two min_two max_three min_three max_four min_four   -- for this text's walks alone
set_option linter.unusedVariables false
set_option linter.unusedSimpArgs false

open Go.Proofs.YtjjockhekaccnaaW.PrintWords
/-! ### laws_toInt64S -/
theorem laws_toInt64S.l0_mono (x0 : List Int) (x3 : List Int) (x4 : Int) : Mono (fun k => laws_toInt64S.l0 k x0 x3 x4) := (fun k => (laws_toInt64S.mono_l k) x0 x3 x4)
noncomputable def laws_toInt64S.l0v (x0 : List Int) (x3 : List Int) (x4 : Int) : Option (List Int) := lim (fun k => laws_toInt64S.l0 k x0 x3 x4)
theorem laws_toInt64S.l0_lim (x0 : List Int) (x3 : List Int) (x4 : Int) : Lim (fun k => laws_toInt64S.l0 k x0 x3 x4) (laws_toInt64S.l0v x0 x3 x4) := lim_Lim (laws_toInt64S.l0_mono x0 x3 x4)
theorem laws_toInt64S.f_mono (l0 : List Int) : Mono (fun k => laws_toInt64S.f k l0) := (fun k => laws_toInt64S.mono l0 k)
noncomputable def laws_toInt64S.fv (l0 : List Int) : Option (List Int) := lim (fun k => laws_toInt64S.f k l0)
theorem laws_toInt64S.f_lim (l0 : List Int) : Lim (fun k => laws_toInt64S.f k l0) (laws_toInt64S.fv l0) := lim_Lim (laws_toInt64S.f_mono l0)
theorem laws_toInt64S.l0v_eq (x0 : List Int) (x3 : List Int) (x4 : Int) : laws_toInt64S.l0v x0 x3 x4 = if x4 < (x0.length : Int) then (if 0 ≤ x4 then (if x4 < (x3.length : Int) then (laws_toInt64S.l0v x0 (x3.set (x4 : Int).toNat (rd x0 x4)) (wrap64 (x4 + 1))) else (none)) else (none)) else (some x3) := by
  refine lim_step (laws_toInt64S.l0_mono x0 x3 x4) (fun k => by rw [laws_toInt64S.l0]) (f := fun k => if x4 < (x0.length : Int) then (if 0 ≤ x4 then (if x4 < (x3.length : Int) then (laws_toInt64S.l0 k x0 (x3.set (x4 : Int).toNat (rd x0 x4)) (wrap64 (x4 + 1))) else (none)) else (none)) else (some x3)) ?_
  repeat' first
    | (with_reducible exact laws_toInt64S.l0_lim _ _ _)
    | exact Lim.const _
    | refine Lim.ite ?_ ?_
    | refine Lim.bind ?_ (fun _ => ?_)
theorem laws_toInt64S.fv_eq (l0 : List Int) : laws_toInt64S.fv l0 = if 0 ≤ (l0.length : Int) then (if ((l0.length : Int) : Int).toNat ≤ 35184372088832 then (laws_toInt64S.l0v l0 (List.replicate ((l0.length : Int) : Int).toNat 0) 0) else (none)) else (none) := by
  refine lim_now (fun k => rfl) (f := fun k => if 0 ≤ (l0.length : Int) then (if ((l0.length : Int) : Int).toNat ≤ 35184372088832 then (laws_toInt64S.l0 k l0 (List.replicate ((l0.length : Int) : Int).toNat 0) 0) else (none)) else (none)) ?_
  repeat' first
    | (with_reducible exact laws_toInt64S.l0_lim _ _ _)
    | exact Lim.const _
    | refine Lim.ite ?_ ?_
    | refine Lim.bind ?_ (fun _ => ?_)
end Go.Proofs.Ytjjockhekaccnaa.X
namespace Go.Proofs.Ytjjockhekaccnaa.X
open Go.RowKit Go.Proofs.YtjjockhekaccnaaW.PrintWords Go.Proofs.YtjjockhekaccnaaW.PrintLast Go.Proofs.YtjjockhekaccnaaW.PrintMore
attribute [local go_sem] max2_int min2_int max_two min_two max_three min_three max_four min_four   -- for this text's walks alone
set_option linter.unusedVariables false
set_option linter.unusedSimpArgs false

open Go.Proofs.YtjjockhekaccnaaW.PrintWords
/-! ### impl_Frieze_keeps -/
theorem impl_Frieze_keeps.l0_mono (x10 : Int) (x11 : Int) (x150000 : Int) (x150001 : Int) (x150002 : List Int) (x151000 : Bool) (x151001 : Bool) (x151002 : Int) : Mono (fun k => impl_Frieze_keeps.l0 k x10 x11 x150000 x150001 x150002 x151000 x151001 x151002) := (fun k => (impl_Frieze_keeps.mono_l k).1 x10 x11 x150000 x150001 x150002 x151000 x151001 x151002)
noncomputable def impl_Frieze_keeps.l0v (x10 : Int) (x11 : Int) (x150000 : Int) (x150001 : Int) (x150002 : List Int) (x151000 : Bool) (x151001 : Bool) (x151002 : Int) : Option (Bool) := lim (fun k => impl_Frieze_keeps.l0 k x10 x11 x150000 x150001 x150002 x151000 x151001 x151002)
theorem impl_Frieze_keeps.l0_lim (x10 : Int) (x11 : Int) (x150000 : Int) (x150001 : Int) (x150002 : List Int) (x151000 : Bool) (x151001 : Bool) (x151002 : Int) : Lim (fun k => impl_Frieze_keeps.l0 k x10 x11 x150000 x150001 x150002 x151000 x151001 x151002) (impl_Frieze_keeps.l0v x10 x11 x150000 x150001 x150002 x151000 x151001 x151002) := lim_Lim (impl_Frieze_keeps.l0_mono x10 x11 x150000 x150001 x150002 x151000 x151001 x151002)
theorem impl_Frieze_keeps.l1_mono (x5 : Int) (x10 : Int) (x11 : Int) (x15 : Int) (x16 : Int) (x150000 : Int) (x150001 : Int) (x150002 : List Int) (x151000 : Bool) (x151001 : Bool) (x151002 : Int) : Mono (fun k => impl_Frieze_keeps.l1 k x5 x10 x11 x15 x16 x150000 x150001 x150002 x151000 x151001 x151002) := (fun k => (impl_Frieze_keeps.mono_l k).2 x5 x10 x11 x15 x16 x150000 x150001 x150002 x151000 x151001 x151002)
noncomputable def impl_Frieze_keeps.l1v (x5 : Int) (x10 : Int) (x11 : Int) (x15 : Int) (x16 : Int) (x150000 : Int) (x150001 : Int) (x150002 : List Int) (x151000 : Bool) (x151001 : Bool) (x151002 : Int) : Option (Bool) := lim (fun k => impl_Frieze_keeps.l1 k x5 x10 x11 x15 x16 x150000 x150001 x150002 x151000 x151001 x151002)
theorem impl_Frieze_keeps.l1_lim (x5 : Int) (x10 : Int) (x11 : Int) (x15 : Int) (x16 : Int) (x150000 : Int) (x150001 : Int) (x150002 : List Int) (x151000 : Bool) (x151001 : Bool) (x151002 : Int) : Lim (fun k => impl_Frieze_keeps.l1 k x5 x10 x11 x15 x16 x150000 x150001 x150002 x151000 x151001 x151002) (impl_Frieze_keeps.l1v x5 x10 x11 x15 x16 x150000 x150001 x150002 x151000 x151001 x151002) := lim_Lim (impl_Frieze_keeps.l1_mono x5 x10 x11 x15 x16 x150000 x150001 x150002 x151000 x151001 x151002)
theorem impl_Frieze_keeps.f_mono (a0_0 : Int) (a0_1 : Int) (l0_2 : List Int) (a1_0 : Bool) (a1_1 : Bool) (a1_2 : Int) : Mono (fun k => impl_Frieze_keeps.f k a0_0 a0_1 l0_2 a1_0 a1_1 a1_2) := (fun k => impl_Frieze_keeps.mono a0_0 a0_1 l0_2 a1_0 a1_1 a1_2 k)
noncomputable def impl_Frieze_keeps.fv (a0_0 : Int) (a0_1 : Int) (l0_2 : List Int) (a1_0 : Bool) (a1_1 : Bool) (a1_2 : Int) : Option (Bool) := lim (fun k => impl_Frieze_keeps.f k a0_0 a0_1 l0_2 a1_0 a1_1 a1_2)
theorem impl_Frieze_keeps.f_lim (a0_0 : Int) (a0_1 : Int) (l0_2 : List Int) (a1_0 : Bool) (a1_1 : Bool) (a1_2 : Int) : Lim (fun k => impl_Frieze_keeps.f k a0_0 a0_1 l0_2 a1_0 a1_1 a1_2) (impl_Frieze_keeps.fv a0_0 a0_1 l0_2 a1_0 a1_1 a1_2) := lim_Lim (impl_Frieze_keeps.f_mono a0_0 a0_1 l0_2 a1_0 a1_1 a1_2)
theorem impl_Frieze_keeps.l0v_eq (x10 : Int) (x11 : Int) (x150000 : Int) (x150001 : Int) (x150002 : List Int) (x151000 : Bool) (x151001 : Bool) (x151002 : Int) : impl_Frieze_keeps.l0v x10 x11 x150000 x150001 x150002 x151000 x151001 x151002 = if x11 < x10 then (impl_Frieze_keeps.l1v x11 x10 x11 x150001 0 x150000 x150001 x150002 x151000 x151001 x151002) else (some true) := by
  refine lim_step (impl_Frieze_keeps.l0_mono x10 x11 x150000 x150001 x150002 x151000 x151001 x151002) (fun k => by rw [impl_Frieze_keeps.l0]) (f := fun k => if x11 < x10 then (impl_Frieze_keeps.l1 k x11 x10 x11 x150001 0 x150000 x150001 x150002 x151000 x151001 x151002) else (some true)) ?_
  repeat' first
    | (with_reducible exact impl_Frieze_keeps.l1_lim _ _ _ _ _ _ _ _ _ _ _)
    | exact Lim.const _
    | refine Lim.ite ?_ ?_
    | refine Lim.bind ?_ (fun _ => ?_)
theorem impl_Frieze_keeps.l1v_eq (x5 : Int) (x10 : Int) (x11 : Int) (x15 : Int) (x16 : Int) (x150000 : Int) (x150001 : Int) (x150002 : List Int) (x151000 : Bool) (x151001 : Bool) (x151002 : Int) : impl_Frieze_keeps.l1v x5 x10 x11 x15 x16 x150000 x150001 x150002 x151000 x151001 x151002 = if x16 < x15 then ((impl_Frieze_take.f x150000 x150001 x150002 x151000 x151001 x151002 x16 x5).bind fun bt151 => ((impl_Frieze_at.f x150000 x150001 x150002 bt151.1 bt151.2).bind fun t153 => ((impl_Frieze_at.f x150000 x150001 x150002 x16 x5).bind fun t154 => (if t153 = t154 then (impl_Frieze_keeps.l1v x5 x10 x11 x15 (wrap64 (x16 + 1)) x150000 x150001 x150002 x151000 x151001 x151002) else (some false))))) else (impl_Frieze_keeps.l0v x10 (wrap64 (x11 + 1)) x150000 x150001 x150002 x151000 x151001 x151002) := by
  refine lim_step (impl_Frieze_keeps.l1_mono x5 x10 x11 x15 x16 x150000 x150001 x150002 x151000 x151001 x151002) (fun k => by rw [impl_Frieze_keeps.l1]) (f := fun k => if x16 < x15 then ((impl_Frieze_take.f x150000 x150001 x150002 x151000 x151001 x151002 x16 x5).bind fun bt151 => ((impl_Frieze_at.f x150000 x150001 x150002 bt151.1 bt151.2).bind fun t153 => ((impl_Frieze_at.f x150000 x150001 x150002 x16 x5).bind fun t154 => (if t153 = t154 then (impl_Frieze_keeps.l1 k x5 x10 x11 x15 (wrap64 (x16 + 1)) x150000 x150001 x150002 x151000 x151001 x151002) else (some false))))) else (impl_Frieze_keeps.l0 k x10 (wrap64 (x11 + 1)) x150000 x150001 x150002 x151000 x151001 x151002)) ?_
  repeat' first
    | (with_reducible exact impl_Frieze_keeps.l0_lim _ _ _ _ _ _ _ _)
    | (with_reducible exact impl_Frieze_keeps.l1_lim _ _ _ _ _ _ _ _ _ _ _)
    | exact Lim.const _
    | refine Lim.ite ?_ ?_
    | refine Lim.bind ?_ (fun _ => ?_)
theorem impl_Frieze_keeps.fv_eq (a0_0 : Int) (a0_1 : Int) (l0_2 : List Int) (a1_0 : Bool) (a1_1 : Bool) (a1_2 : Int) : impl_Frieze_keeps.fv a0_0 a0_1 l0_2 a1_0 a1_1 a1_2 = impl_Frieze_keeps.l0v a0_0 0 a0_0 a0_1 l0_2 a1_0 a1_1 a1_2 := by
  refine lim_now (fun k => rfl) (f := fun k => impl_Frieze_keeps.l0 k a0_0 0 a0_0 a0_1 l0_2 a1_0 a1_1 a1_2) ?_
  repeat' first
    | (with_reducible exact impl_Frieze_keeps.l0_lim _ _ _ _ _ _ _ _)
    | exact Lim.const _
    | refine Lim.ite ?_ ?_
    | refine Lim.bind ?_ (fun _ => ?_)
end Go.Proofs.Ytjjockhekaccnaa.X
namespace Go.Proofs.Ytjjockhekaccnaa.X
open Go.RowKit Go.Proofs.YtjjockhekaccnaaW.PrintWords Go.Proofs.YtjjockhekaccnaaW.PrintLast Go.Proofs.YtjjockhekaccnaaW.PrintMore
attribute [local go_sem] max2_int min2_int max_two min_two max_three min_three max_four min_four   -- for this text's walks alone
set_option linter.unusedVariables false
set_option linter.unusedSimpArgs false

open Go.Proofs.YtjjockhekaccnaaW.PrintWords
/-! ### impl_Frieze_period -/
theorem impl_Frieze_period.l0_mono (x3 : Int) (x156000 : Int) (x156001 : Int) (x156002 : List Int) : Mono (fun k => impl_Frieze_period.l0 k x3 x156000 x156001 x156002) := (fun k => (impl_Frieze_period.mono_l k) x3 x156000 x156001 x156002)
noncomputable def impl_Frieze_period.l0v (x3 : Int) (x156000 : Int) (x156001 : Int) (x156002 : List Int) : Option (Int) := lim (fun k => impl_Frieze_period.l0 k x3 x156000 x156001 x156002)
theorem impl_Frieze_period.l0_lim (x3 : Int) (x156000 : Int) (x156001 : Int) (x156002 : List Int) : Lim (fun k => impl_Frieze_period.l0 k x3 x156000 x156001 x156002) (impl_Frieze_period.l0v x3 x156000 x156001 x156002) := lim_Lim (impl_Frieze_period.l0_mono x3 x156000 x156001 x156002)
theorem impl_Frieze_period.f_mono (a0_0 : Int) (a0_1 : Int) (l0_2 : List Int) : Mono (fun k => impl_Frieze_period.f k a0_0 a0_1 l0_2) := (fun k => impl_Frieze_period.mono a0_0 a0_1 l0_2 k)
noncomputable def impl_Frieze_period.fv (a0_0 : Int) (a0_1 : Int) (l0_2 : List Int) : Option (Int) := lim (fun k => impl_Frieze_period.f k a0_0 a0_1 l0_2)
theorem impl_Frieze_period.f_lim (a0_0 : Int) (a0_1 : Int) (l0_2 : List Int) : Lim (fun k => impl_Frieze_period.f k a0_0 a0_1 l0_2) (impl_Frieze_period.fv a0_0 a0_1 l0_2) := lim_Lim (impl_Frieze_period.f_mono a0_0 a0_1 l0_2)
theorem impl_Frieze_period.l0v_eq (x3 : Int) (x156000 : Int) (x156001 : Int) (x156002 : List Int) : impl_Frieze_period.l0v x3 x156000 x156001 x156002 = (impl_Frieze_keeps.fv x156000 x156001 x156002 false false x3).bind fun t156 => (if t156 = true then (some x3) else (impl_Frieze_period.l0v (wrap64 (x3 + 1)) x156000 x156001 x156002)) := by
  refine lim_step (impl_Frieze_period.l0_mono x3 x156000 x156001 x156002) (fun k => by rw [impl_Frieze_period.l0]) (f := fun k => (impl_Frieze_keeps.f k x156000 x156001 x156002 false false x3).bind fun t156 => (if t156 = true then (some x3) else (impl_Frieze_period.l0 k (wrap64 (x3 + 1)) x156000 x156001 x156002))) ?_
  repeat' first
    | (with_reducible exact impl_Frieze_keeps.f_lim _ _ _ _ _ _)
    | (with_reducible exact impl_Frieze_period.l0_lim _ _ _ _)
    | exact Lim.const _
    | refine Lim.ite ?_ ?_
    | refine Lim.bind ?_ (fun _ => ?_)
theorem impl_Frieze_period.fv_eq (a0_0 : Int) (a0_1 : Int) (l0_2 : List Int) : impl_Frieze_period.fv a0_0 a0_1 l0_2 = impl_Frieze_period.l0v 1 a0_0 a0_1 l0_2 := by
  refine lim_now (fun k => rfl) (f := fun k => impl_Frieze_period.l0 k 1 a0_0 a0_1 l0_2) ?_
  repeat' first
    | (with_reducible exact impl_Frieze_period.l0_lim _ _ _ _)
    | exact Lim.const _
    | refine Lim.ite ?_ ?_
    | refine Lim.bind ?_ (fun _ => ?_)
end Go.Proofs.Ytjjockhekaccnaa.X
namespace Go.Proofs.Ytjjockhekaccnaa.X
open Go.RowKit Go.Proofs.YtjjockhekaccnaaW.PrintWords Go.Proofs.YtjjockhekaccnaaW.PrintLast Go.Proofs.YtjjockhekaccnaaW.PrintMore
attribute [local go_sem] max2_int min2_int max_two min_two max_three min_three max_four min_four   -- for this text's walks alone
set_option linter.unusedVariables false
set_option linter.unusedSimpArgs false

open Go.Proofs.YtjjockhekaccnaaW.PrintWords
/-! ### spec_l01Within -/
theorem spec_l01Within.l0_mono (x0 : List Int) (x1 : Int) (x2 : Int) (x3 : Int) (x9 : Int) : Mono (fun k => spec_l01Within.l0 k x0 x1 x2 x3 x9) := (fun k => (spec_l01Within.mono_l k) x0 x1 x2 x3 x9)
noncomputable def spec_l01Within.l0v (x0 : List Int) (x1 : Int) (x2 : Int) (x3 : Int) (x9 : Int) : Option (Bool) := lim (fun k => spec_l01Within.l0 k x0 x1 x2 x3 x9)
theorem spec_l01Within.l0_lim (x0 : List Int) (x1 : Int) (x2 : Int) (x3 : Int) (x9 : Int) : Lim (fun k => spec_l01Within.l0 k x0 x1 x2 x3 x9) (spec_l01Within.l0v x0 x1 x2 x3 x9) := lim_Lim (spec_l01Within.l0_mono x0 x1 x2 x3 x9)
theorem spec_l01Within.f_mono (l0 : List Int) (a1 : Int) (a2 : Int) (a3 : Int) : Mono (fun k => spec_l01Within.f k l0 a1 a2 a3) := (fun k => spec_l01Within.mono l0 a1 a2 a3 k)
noncomputable def spec_l01Within.fv (l0 : List Int) (a1 : Int) (a2 : Int) (a3 : Int) : Option (Bool) := lim (fun k => spec_l01Within.f k l0 a1 a2 a3)
theorem spec_l01Within.f_lim (l0 : List Int) (a1 : Int) (a2 : Int) (a3 : Int) : Lim (fun k => spec_l01Within.f k l0 a1 a2 a3) (spec_l01Within.fv l0 a1 a2 a3) := lim_Lim (spec_l01Within.f_mono l0 a1 a2 a3)
theorem spec_l01Within.l0v_eq (x0 : List Int) (x1 : Int) (x2 : Int) (x3 : Int) (x9 : Int) : spec_l01Within.l0v x0 x1 x2 x3 x9 = if x9 < (x0.length : Int) then (if 0 ≤ x9 then ((spec_l01In.f (rd x0 x9) x2 x3).bind fun t104 => (if t104 = true then (spec_l01Within.l0v x0 x1 x2 x3 (wrap64 (x9 + 1))) else (some false))) else (none)) else (some (decide ((x0.length : Int) ≤ x1))) := by
  refine lim_step (spec_l01Within.l0_mono x0 x1 x2 x3 x9) (fun k => by rw [spec_l01Within.l0]) (f := fun k => if x9 < (x0.length : Int) then (if 0 ≤ x9 then ((spec_l01In.f (rd x0 x9) x2 x3).bind fun t104 => (if t104 = true then (spec_l01Within.l0 k x0 x1 x2 x3 (wrap64 (x9 + 1))) else (some false))) else (none)) else (some (decide ((x0.length : Int) ≤ x1)))) ?_
  repeat' first
    | (with_reducible exact spec_l01Within.l0_lim _ _ _ _ _)
    | exact Lim.const _
    | refine Lim.ite ?_ ?_
    | refine Lim.bind ?_ (fun _ => ?_)
theorem spec_l01Within.fv_eq (l0 : List Int) (a1 : Int) (a2 : Int) (a3 : Int) : spec_l01Within.fv l0 a1 a2 a3 = spec_l01Within.l0v l0 a1 a2 a3 0 := by
  refine lim_now (fun k => rfl) (f := fun k => spec_l01Within.l0 k l0 a1 a2 a3 0) ?_
  repeat' first
    | (with_reducible exact spec_l01Within.l0_lim _ _ _ _ _)
    | exact Lim.const _
    | refine Lim.ite ?_ ?_
    | refine Lim.bind ?_ (fun _ => ?_)
end Go.Proofs.Ytjjockhekaccnaa.X
namespace Go.Proofs.Ytjjockhekaccnaa.X
open Go.RowKit Go.Proofs.YtjjockhekaccnaaW.PrintWords Go.Proofs.YtjjockhekaccnaaW.PrintLast Go.Proofs.YtjjockhekaccnaaW.PrintMore
attribute [local go_sem] max2_int min2_int max_two min_two max_three min_three max_four min_four   -- for this text's walks alone
set_option linter.unusedVariables false
set_option linter.unusedSimpArgs false

open Go.Proofs.YtjjockhekaccnaaW.PrintWords
/-! ### spec_IsFrieze -/
theorem spec_IsFrieze.f_mono (a0_0 : Int) (a0_1 : Int) (l0_2 : List Int) : Mono (fun k => spec_IsFrieze.f k a0_0 a0_1 l0_2) := (fun k => spec_IsFrieze.mono a0_0 a0_1 l0_2 k)
noncomputable def spec_IsFrieze.fv (a0_0 : Int) (a0_1 : Int) (l0_2 : List Int) : Option (Bool) := lim (fun k => spec_IsFrieze.f k a0_0 a0_1 l0_2)
theorem spec_IsFrieze.f_lim (a0_0 : Int) (a0_1 : Int) (l0_2 : List Int) : Lim (fun k => spec_IsFrieze.f k a0_0 a0_1 l0_2) (spec_IsFrieze.fv a0_0 a0_1 l0_2) := lim_Lim (spec_IsFrieze.f_mono a0_0 a0_1 l0_2)
theorem spec_IsFrieze.fv_eq (a0_0 : Int) (a0_1 : Int) (l0_2 : List Int) : spec_IsFrieze.fv a0_0 a0_1 l0_2 = (spec_l01In.f a0_0 1 6).bind fun t106 => (if t106 = true then ((spec_l01In.f a0_1 1 24).bind fun t107 => (if t107 = true then (if (l0_2.length : Int) = (wrap64 (a0_0 * a0_1)) then ((spec_l01Within.fv l0_2 144 0 9).bind fun t108 => (some t108)) else (some false)) else (some false))) else (some false)) := by
  refine lim_now (fun k => rfl) (f := fun k => (spec_l01In.f a0_0 1 6).bind fun t106 => (if t106 = true then ((spec_l01In.f a0_1 1 24).bind fun t107 => (if t107 = true then (if (l0_2.length : Int) = (wrap64 (a0_0 * a0_1)) then ((spec_l01Within.f k l0_2 144 0 9).bind fun t108 => (some t108)) else (some false)) else (some false))) else (some false))) ?_
  repeat' first
    | (with_reducible exact spec_l01Within.f_lim _ _ _ _)
    | exact Lim.const _
    | refine Lim.ite ?_ ?_
    | refine Lim.bind ?_ (fun _ => ?_)
end Go.Proofs.Ytjjockhekaccnaa.X
namespace Go.Proofs.Ytjjockhekaccnaa.X
open Go.RowKit Go.Proofs.YtjjockhekaccnaaW.PrintWords Go.Proofs.YtjjockhekaccnaaW.PrintLast Go.Proofs.YtjjockhekaccnaaW.PrintMore
attribute [local go_sem] max2_int min2_int max_two min_two max_three min_three max_four min_four   -- for this text's walks alone
set_option linter.unusedVariables false
set_option linter.unusedSimpArgs false

open Go.Proofs.YtjjockhekaccnaaW.PrintWords
/-! ### spec_l08Keeps -/
theorem spec_l08Keeps.l0_mono (x5 : Int) (x115000 : Int) (x115001 : Int) (x115002 : List Int) (x116000 : Bool) (x116001 : Bool) (x116002 : Int) : Mono (fun k => spec_l08Keeps.l0 k x5 x115000 x115001 x115002 x116000 x116001 x116002) := (fun k => (spec_l08Keeps.mono_l k).1 x5 x115000 x115001 x115002 x116000 x116001 x116002)
noncomputable def spec_l08Keeps.l0v (x5 : Int) (x115000 : Int) (x115001 : Int) (x115002 : List Int) (x116000 : Bool) (x116001 : Bool) (x116002 : Int) : Option (Bool) := lim (fun k => spec_l08Keeps.l0 k x5 x115000 x115001 x115002 x116000 x116001 x116002)
theorem spec_l08Keeps.l0_lim (x5 : Int) (x115000 : Int) (x115001 : Int) (x115002 : List Int) (x116000 : Bool) (x116001 : Bool) (x116002 : Int) : Lim (fun k => spec_l08Keeps.l0 k x5 x115000 x115001 x115002 x116000 x116001 x116002) (spec_l08Keeps.l0v x5 x115000 x115001 x115002 x116000 x116001 x116002) := lim_Lim (spec_l08Keeps.l0_mono x5 x115000 x115001 x115002 x116000 x116001 x116002)
theorem spec_l08Keeps.l1_mono (x5 : Int) (x6 : Int) (x115000 : Int) (x115001 : Int) (x115002 : List Int) (x116000 : Bool) (x116001 : Bool) (x116002 : Int) : Mono (fun k => spec_l08Keeps.l1 k x5 x6 x115000 x115001 x115002 x116000 x116001 x116002) := (fun k => (spec_l08Keeps.mono_l k).2 x5 x6 x115000 x115001 x115002 x116000 x116001 x116002)
noncomputable def spec_l08Keeps.l1v (x5 : Int) (x6 : Int) (x115000 : Int) (x115001 : Int) (x115002 : List Int) (x116000 : Bool) (x116001 : Bool) (x116002 : Int) : Option (Bool) := lim (fun k => spec_l08Keeps.l1 k x5 x6 x115000 x115001 x115002 x116000 x116001 x116002)
theorem spec_l08Keeps.l1_lim (x5 : Int) (x6 : Int) (x115000 : Int) (x115001 : Int) (x115002 : List Int) (x116000 : Bool) (x116001 : Bool) (x116002 : Int) : Lim (fun k => spec_l08Keeps.l1 k x5 x6 x115000 x115001 x115002 x116000 x116001 x116002) (spec_l08Keeps.l1v x5 x6 x115000 x115001 x115002 x116000 x116001 x116002) := lim_Lim (spec_l08Keeps.l1_mono x5 x6 x115000 x115001 x115002 x116000 x116001 x116002)
theorem spec_l08Keeps.f_mono (a0_0 : Int) (a0_1 : Int) (l0_2 : List Int) (a1_0 : Bool) (a1_1 : Bool) (a1_2 : Int) : Mono (fun k => spec_l08Keeps.f k a0_0 a0_1 l0_2 a1_0 a1_1 a1_2) := (fun k => spec_l08Keeps.mono a0_0 a0_1 l0_2 a1_0 a1_1 a1_2 k)
noncomputable def spec_l08Keeps.fv (a0_0 : Int) (a0_1 : Int) (l0_2 : List Int) (a1_0 : Bool) (a1_1 : Bool) (a1_2 : Int) : Option (Bool) := lim (fun k => spec_l08Keeps.f k a0_0 a0_1 l0_2 a1_0 a1_1 a1_2)
theorem spec_l08Keeps.f_lim (a0_0 : Int) (a0_1 : Int) (l0_2 : List Int) (a1_0 : Bool) (a1_1 : Bool) (a1_2 : Int) : Lim (fun k => spec_l08Keeps.f k a0_0 a0_1 l0_2 a1_0 a1_1 a1_2) (spec_l08Keeps.fv a0_0 a0_1 l0_2 a1_0 a1_1 a1_2) := lim_Lim (spec_l08Keeps.f_mono a0_0 a0_1 l0_2 a1_0 a1_1 a1_2)
theorem spec_l08Keeps.l0v_eq (x5 : Int) (x115000 : Int) (x115001 : Int) (x115002 : List Int) (x116000 : Bool) (x116001 : Bool) (x116002 : Int) : spec_l08Keeps.l0v x5 x115000 x115001 x115002 x116000 x116001 x116002 = if x5 < x115000 then (spec_l08Keeps.l1v x5 0 x115000 x115001 x115002 x116000 x116001 x116002) else (some true) := by
  refine lim_step (spec_l08Keeps.l0_mono x5 x115000 x115001 x115002 x116000 x116001 x116002) (fun k => by rw [spec_l08Keeps.l0]) (f := fun k => if x5 < x115000 then (spec_l08Keeps.l1 k x5 0 x115000 x115001 x115002 x116000 x116001 x116002) else (some true)) ?_
  repeat' first
    | (with_reducible exact spec_l08Keeps.l1_lim _ _ _ _ _ _ _ _)
    | exact Lim.const _
    | refine Lim.ite ?_ ?_
    | refine Lim.bind ?_ (fun _ => ?_)
theorem spec_l08Keeps.l1v_eq (x5 : Int) (x6 : Int) (x115000 : Int) (x115001 : Int) (x115002 : List Int) (x116000 : Bool) (x116001 : Bool) (x116002 : Int) : spec_l08Keeps.l1v x5 x6 x115000 x115001 x115002 x116000 x116001 x116002 = if x6 < x115001 then ((spec_l08Image.f x115000 x115001 x115002 x116000 x116001 x116002 x6 x5).bind fun bt116 => ((spec_l08At.f x115000 x115001 x115002 bt116.1 bt116.2).bind fun t118 => ((spec_l08At.f x115000 x115001 x115002 x6 x5).bind fun t119 => (if t118 = t119 then (spec_l08Keeps.l1v x5 (wrap64 (x6 + 1)) x115000 x115001 x115002 x116000 x116001 x116002) else (some false))))) else (spec_l08Keeps.l0v (wrap64 (x5 + 1)) x115000 x115001 x115002 x116000 x116001 x116002) := by
  refine lim_step (spec_l08Keeps.l1_mono x5 x6 x115000 x115001 x115002 x116000 x116001 x116002) (fun k => by rw [spec_l08Keeps.l1]) (f := fun k => if x6 < x115001 then ((spec_l08Image.f x115000 x115001 x115002 x116000 x116001 x116002 x6 x5).bind fun bt116 => ((spec_l08At.f x115000 x115001 x115002 bt116.1 bt116.2).bind fun t118 => ((spec_l08At.f x115000 x115001 x115002 x6 x5).bind fun t119 => (if t118 = t119 then (spec_l08Keeps.l1 k x5 (wrap64 (x6 + 1)) x115000 x115001 x115002 x116000 x116001 x116002) else (some false))))) else (spec_l08Keeps.l0 k (wrap64 (x5 + 1)) x115000 x115001 x115002 x116000 x116001 x116002)) ?_
  repeat' first
    | (with_reducible exact spec_l08Keeps.l0_lim _ _ _ _ _ _ _)
    | (with_reducible exact spec_l08Keeps.l1_lim _ _ _ _ _ _ _ _)
    | exact Lim.const _
    | refine Lim.ite ?_ ?_
    | refine Lim.bind ?_ (fun _ => ?_)
theorem spec_l08Keeps.fv_eq (a0_0 : Int) (a0_1 : Int) (l0_2 : List Int) (a1_0 : Bool) (a1_1 : Bool) (a1_2 : Int) : spec_l08Keeps.fv a0_0 a0_1 l0_2 a1_0 a1_1 a1_2 = spec_l08Keeps.l0v 0 a0_0 a0_1 l0_2 a1_0 a1_1 a1_2 := by
  refine lim_now (fun k => rfl) (f := fun k => spec_l08Keeps.l0 k 0 a0_0 a0_1 l0_2 a1_0 a1_1 a1_2) ?_
  repeat' first
    | (with_reducible exact spec_l08Keeps.l0_lim _ _ _ _ _ _ _)
    | exact Lim.const _
    | refine Lim.ite ?_ ?_
    | refine Lim.bind ?_ (fun _ => ?_)
end Go.Proofs.Ytjjockhekaccnaa.X
namespace Go.Proofs.Ytjjockhekaccnaa.X
open Go.RowKit Go.Proofs.YtjjockhekaccnaaW.PrintWords Go.Proofs.YtjjockhekaccnaaW.PrintLast Go.Proofs.YtjjockhekaccnaaW.PrintMore
attribute [local go_sem] max2_int min2_int max_two min_two max_three min_three max_four min_four   -- for this text's walks alone
set_option linter.unusedVariables false
set_option linter.unusedSimpArgs false

open Go.Proofs.YtjjockhekaccnaaW.PrintWords
/-! ### spec_l08Period -/
theorem spec_l08Period.l0_mono (x3 : Int) (x121000 : Int) (x121001 : Int) (x121002 : List Int) : Mono (fun k => spec_l08Period.l0 k x3 x121000 x121001 x121002) := (fun k => (spec_l08Period.mono_l k) x3 x121000 x121001 x121002)
noncomputable def spec_l08Period.l0v (x3 : Int) (x121000 : Int) (x121001 : Int) (x121002 : List Int) : Option (Int) := lim (fun k => spec_l08Period.l0 k x3 x121000 x121001 x121002)
theorem spec_l08Period.l0_lim (x3 : Int) (x121000 : Int) (x121001 : Int) (x121002 : List Int) : Lim (fun k => spec_l08Period.l0 k x3 x121000 x121001 x121002) (spec_l08Period.l0v x3 x121000 x121001 x121002) := lim_Lim (spec_l08Period.l0_mono x3 x121000 x121001 x121002)
theorem spec_l08Period.f_mono (a0_0 : Int) (a0_1 : Int) (l0_2 : List Int) : Mono (fun k => spec_l08Period.f k a0_0 a0_1 l0_2) := (fun k => spec_l08Period.mono a0_0 a0_1 l0_2 k)
noncomputable def spec_l08Period.fv (a0_0 : Int) (a0_1 : Int) (l0_2 : List Int) : Option (Int) := lim (fun k => spec_l08Period.f k a0_0 a0_1 l0_2)
theorem spec_l08Period.f_lim (a0_0 : Int) (a0_1 : Int) (l0_2 : List Int) : Lim (fun k => spec_l08Period.f k a0_0 a0_1 l0_2) (spec_l08Period.fv a0_0 a0_1 l0_2) := lim_Lim (spec_l08Period.f_mono a0_0 a0_1 l0_2)
theorem spec_l08Period.l0v_eq (x3 : Int) (x121000 : Int) (x121001 : Int) (x121002 : List Int) : spec_l08Period.l0v x3 x121000 x121001 x121002 = (spec_l08Keeps.fv x121000 x121001 x121002 false false x3).bind fun t121 => (if t121 = true then (some x3) else (spec_l08Period.l0v (wrap64 (x3 + 1)) x121000 x121001 x121002)) := by
  refine lim_step (spec_l08Period.l0_mono x3 x121000 x121001 x121002) (fun k => by rw [spec_l08Period.l0]) (f := fun k => (spec_l08Keeps.f k x121000 x121001 x121002 false false x3).bind fun t121 => (if t121 = true then (some x3) else (spec_l08Period.l0 k (wrap64 (x3 + 1)) x121000 x121001 x121002))) ?_
  repeat' first
    | (with_reducible exact spec_l08Keeps.f_lim _ _ _ _ _ _)
    | (with_reducible exact spec_l08Period.l0_lim _ _ _ _)
    | exact Lim.const _
    | refine Lim.ite ?_ ?_
    | refine Lim.bind ?_ (fun _ => ?_)
theorem spec_l08Period.fv_eq (a0_0 : Int) (a0_1 : Int) (l0_2 : List Int) : spec_l08Period.fv a0_0 a0_1 l0_2 = spec_l08Period.l0v 1 a0_0 a0_1 l0_2 := by
  refine lim_now (fun k => rfl) (f := fun k => spec_l08Period.l0 k 1 a0_0 a0_1 l0_2) ?_
  repeat' first
    | (with_reducible exact spec_l08Period.l0_lim _ _ _ _)
    | exact Lim.const _
    | refine Lim.ite ?_ ?_
    | refine Lim.bind ?_ (fun _ => ?_)
end Go.Proofs.Ytjjockhekaccnaa.X
namespace Go.Proofs.Ytjjockhekaccnaa.X
open Go.RowKit Go.Proofs.YtjjockhekaccnaaW.PrintWords Go.Proofs.YtjjockhekaccnaaW.PrintLast Go.Proofs.YtjjockhekaccnaaW.PrintMore
attribute [local go_sem] max2_int min2_int max_two min_two max_three min_three max_four min_four   -- for this text's walks alone
set_option linter.unusedVariables false
set_option linter.unusedSimpArgs false

open Go.Proofs.YtjjockhekaccnaaW.PrintWords
/-! ### laws_eqFrieze -/
theorem laws_eqFrieze.f_mono (a0_0 : Int) (a0_1 : Int) (l0_2 : List Int) (a1_0 : Int) (a1_1 : Int) (l1_2 : List Int) : Mono (fun k => laws_eqFrieze.f k a0_0 a0_1 l0_2 a1_0 a1_1 l1_2) := (fun k => laws_eqFrieze.mono a0_0 a0_1 l0_2 a1_0 a1_1 l1_2 k)
noncomputable def laws_eqFrieze.fv (a0_0 : Int) (a0_1 : Int) (l0_2 : List Int) (a1_0 : Int) (a1_1 : Int) (l1_2 : List Int) : Option (Bool) := lim (fun k => laws_eqFrieze.f k a0_0 a0_1 l0_2 a1_0 a1_1 l1_2)
theorem laws_eqFrieze.f_lim (a0_0 : Int) (a0_1 : Int) (l0_2 : List Int) (a1_0 : Int) (a1_1 : Int) (l1_2 : List Int) : Lim (fun k => laws_eqFrieze.f k a0_0 a0_1 l0_2 a1_0 a1_1 l1_2) (laws_eqFrieze.fv a0_0 a0_1 l0_2 a1_0 a1_1 l1_2) := lim_Lim (laws_eqFrieze.f_mono a0_0 a0_1 l0_2 a1_0 a1_1 l1_2)
theorem laws_eqFrieze.fv_eq (a0_0 : Int) (a0_1 : Int) (l0_2 : List Int) (a1_0 : Int) (a1_1 : Int) (l1_2 : List Int) : laws_eqFrieze.fv a0_0 a0_1 l0_2 a1_0 a1_1 l1_2 = if a0_0 = a1_0 then (if a0_1 = a1_1 then ((laws_eqInt64S.fv l0_2 l1_2).bind fun t164 => (if t164 = true then (some true) else (some false))) else (some false)) else (some false) := by
  refine lim_now (fun k => rfl) (f := fun k => if a0_0 = a1_0 then (if a0_1 = a1_1 then ((laws_eqInt64S.f k l0_2 l1_2).bind fun t164 => (if t164 = true then (some true) else (some false))) else (some false)) else (some false)) ?_
  repeat' first
    | (with_reducible exact laws_eqInt64S.f_lim _ _)
    | exact Lim.const _
    | refine Lim.ite ?_ ?_
    | refine Lim.bind ?_ (fun _ => ?_)
end Go.Proofs.Ytjjockhekaccnaa.X
namespace Go.Proofs.Ytjjockhekaccnaa.X
open Go.RowKit Go.Proofs.YtjjockhekaccnaaW.PrintWords Go.Proofs.YtjjockhekaccnaaW.PrintLast Go.Proofs.YtjjockhekaccnaaW.PrintMore
attribute [local go_sem] max2_int min2_int max_two min_two max_three min_three max_four min_four   -- for this text's walks alone
set_option linter.unusedVariables false
set_option linter.unusedSimpArgs false

open Go.Proofs.YtjjockhekaccnaaW.PrintWords
/-! ### laws_heldFrieze -/
theorem laws_heldFrieze.f_mono (a0_0 : Int) (a0_1 : Int) (l0_2 : List Int) (a1 : Int) : Mono (fun k => laws_heldFrieze.f k a0_0 a0_1 l0_2 a1) := (fun k => laws_heldFrieze.mono a0_0 a0_1 l0_2 a1 k)
noncomputable def laws_heldFrieze.fv (a0_0 : Int) (a0_1 : Int) (l0_2 : List Int) (a1 : Int) : Option (Int) := lim (fun k => laws_heldFrieze.f k a0_0 a0_1 l0_2 a1)
theorem laws_heldFrieze.f_lim (a0_0 : Int) (a0_1 : Int) (l0_2 : List Int) (a1 : Int) : Lim (fun k => laws_heldFrieze.f k a0_0 a0_1 l0_2 a1) (laws_heldFrieze.fv a0_0 a0_1 l0_2 a1) := lim_Lim (laws_heldFrieze.f_mono a0_0 a0_1 l0_2 a1)
theorem laws_heldFrieze.fv_eq (a0_0 : Int) (a0_1 : Int) (l0_2 : List Int) (a1 : Int) : laws_heldFrieze.fv a0_0 a0_1 l0_2 a1 = (laws_heldInt64S.fv l0_2 a1).bind fun t224 => (if t224 < 0 then (some (-1)) else (some t224)) := by
  refine lim_now (fun k => rfl) (f := fun k => (laws_heldInt64S.f k l0_2 a1).bind fun t224 => (if t224 < 0 then (some (-1)) else (some t224))) ?_
  repeat' first
    | (with_reducible exact laws_heldInt64S.f_lim _ _)
    | exact Lim.const _
    | refine Lim.ite ?_ ?_
    | refine Lim.bind ?_ (fun _ => ?_)
end Go.Proofs.Ytjjockhekaccnaa.X
namespace Go.Proofs.Ytjjockhekaccnaa.X
open Go.RowKit Go.Proofs.YtjjockhekaccnaaW.PrintWords Go.Proofs.YtjjockhekaccnaaW.PrintLast Go.Proofs.YtjjockhekaccnaaW.PrintMore
attribute [local go_sem] max2_int min2_int max_two min_two max_three min_three max_four min_four   -- for this text's walks alone
set_option linter.unusedVariables false
set_option linter.unusedSimpArgs false

open Go.Proofs.YtjjockhekaccnaaW.PrintWords
/-! ### laws_markFrieze -/
theorem laws_markFrieze.f_mono (a0_0 : Int) (a0_1 : Int) (l0_2 : List Int) (a1 : Int) : Mono (fun k => laws_markFrieze.f k a0_0 a0_1 l0_2 a1) := (fun k => laws_markFrieze.mono a0_0 a0_1 l0_2 a1 k)
noncomputable def laws_markFrieze.fv (a0_0 : Int) (a0_1 : Int) (l0_2 : List Int) (a1 : Int) : Option (Int × List Int) := lim (fun k => laws_markFrieze.f k a0_0 a0_1 l0_2 a1)
theorem laws_markFrieze.f_lim (a0_0 : Int) (a0_1 : Int) (l0_2 : List Int) (a1 : Int) : Lim (fun k => laws_markFrieze.f k a0_0 a0_1 l0_2 a1) (laws_markFrieze.fv a0_0 a0_1 l0_2 a1) := lim_Lim (laws_markFrieze.f_mono a0_0 a0_1 l0_2 a1)
theorem laws_markFrieze.fv_eq (a0_0 : Int) (a0_1 : Int) (l0_2 : List Int) (a1 : Int) : laws_markFrieze.fv a0_0 a0_1 l0_2 a1 = (laws_markInt64S.fv l0_2 a1).bind fun bt220 => (some (bt220.1, bt220.2)) := by
  refine lim_now (fun k => rfl) (f := fun k => (laws_markInt64S.f k l0_2 a1).bind fun bt220 => (some (bt220.1, bt220.2))) ?_
  repeat' first
    | (with_reducible exact laws_markInt64S.f_lim _ _)
    | exact Lim.const _
    | refine Lim.ite ?_ ?_
    | refine Lim.bind ?_ (fun _ => ?_)
end Go.Proofs.Ytjjockhekaccnaa.X
namespace Go.Proofs.Ytjjockhekaccnaa.X
open Go.RowKit Go.Proofs.YtjjockhekaccnaaW.PrintWords Go.Proofs.YtjjockhekaccnaaW.PrintLast Go.Proofs.YtjjockhekaccnaaW.PrintMore
attribute [local go_sem] max2_int min2_int max_two min_two max_three min_three max_four min_four   -- for this text's walks alone
set_option linter.unusedVariables false
set_option linter.unusedSimpArgs false

open Go.Proofs.YtjjockhekaccnaaW.PrintWords
/-! ### laws_toFrieze -/
theorem laws_toFrieze.f_mono (a0_0 : Int) (a0_1 : Int) (l0_2 : List Int) : Mono (fun k => laws_toFrieze.f k a0_0 a0_1 l0_2) := (fun k => laws_toFrieze.mono a0_0 a0_1 l0_2 k)
noncomputable def laws_toFrieze.fv (a0_0 : Int) (a0_1 : Int) (l0_2 : List Int) : Option (Int × Int × List Int) := lim (fun k => laws_toFrieze.f k a0_0 a0_1 l0_2)
theorem laws_toFrieze.f_lim (a0_0 : Int) (a0_1 : Int) (l0_2 : List Int) : Lim (fun k => laws_toFrieze.f k a0_0 a0_1 l0_2) (laws_toFrieze.fv a0_0 a0_1 l0_2) := lim_Lim (laws_toFrieze.f_mono a0_0 a0_1 l0_2)
theorem laws_toFrieze.fv_eq (a0_0 : Int) (a0_1 : Int) (l0_2 : List Int) : laws_toFrieze.fv a0_0 a0_1 l0_2 = (laws_toInt64S.fv l0_2).bind fun t133 => (some (a0_0, a0_1, t133)) := by
  refine lim_now (fun k => rfl) (f := fun k => (laws_toInt64S.f k l0_2).bind fun t133 => (some (a0_0, a0_1, t133))) ?_
  repeat' first
    | (with_reducible exact laws_toInt64S.f_lim _)
    | exact Lim.const _
    | refine Lim.ite ?_ ?_
    | refine Lim.bind ?_ (fun _ => ?_)
end Go.Proofs.Ytjjockhekaccnaa.X
namespace Go.Proofs.Ytjjockhekaccnaa.X
open Go.RowKit Go.Proofs.YtjjockhekaccnaaW.PrintWords Go.Proofs.YtjjockhekaccnaaW.PrintLast Go.Proofs.YtjjockhekaccnaaW.PrintMore
attribute [local go_sem] max2_int min2_int max_two min_two max_three min_three max_four min_four   -- for this text's walks alone
set_option linter.unusedVariables false
set_option linter.unusedSimpArgs false

open Go.Proofs.YtjjockhekaccnaaW.PrintWords
/-! ### impl_ShortenFrieze -/
theorem impl_ShortenFrieze.l0_mono (x17 : Int) (x18 : Int) (x302000 : Int) (x302001 : Int) (x302002 : List Int) (x306000 : Int) (x306001 : Int) (x306002 : List Int) : Mono (fun k => impl_ShortenFrieze.l0 k x17 x18 x302000 x302001 x302002 x306000 x306001 x306002) := (fun k => (impl_ShortenFrieze.mono_l k).1 x17 x18 x302000 x302001 x302002 x306000 x306001 x306002)
noncomputable def impl_ShortenFrieze.l0v (x17 : Int) (x18 : Int) (x302000 : Int) (x302001 : Int) (x302002 : List Int) (x306000 : Int) (x306001 : Int) (x306002 : List Int) : Option (Int × Int × List Int × Int) := lim (fun k => impl_ShortenFrieze.l0 k x17 x18 x302000 x302001 x302002 x306000 x306001 x306002)
theorem impl_ShortenFrieze.l0_lim (x17 : Int) (x18 : Int) (x302000 : Int) (x302001 : Int) (x302002 : List Int) (x306000 : Int) (x306001 : Int) (x306002 : List Int) : Lim (fun k => impl_ShortenFrieze.l0 k x17 x18 x302000 x302001 x302002 x306000 x306001 x306002) (impl_ShortenFrieze.l0v x17 x18 x302000 x302001 x302002 x306000 x306001 x306002) := lim_Lim (impl_ShortenFrieze.l0_mono x17 x18 x302000 x302001 x302002 x306000 x306001 x306002)
theorem impl_ShortenFrieze.l1_mono (x5 : Int) (x17 : Int) (x18 : Int) (x22 : Int) (x23 : Int) (x302000 : Int) (x302001 : Int) (x302002 : List Int) (x306000 : Int) (x306001 : Int) (x306002 : List Int) : Mono (fun k => impl_ShortenFrieze.l1 k x5 x17 x18 x22 x23 x302000 x302001 x302002 x306000 x306001 x306002) := (fun k => (impl_ShortenFrieze.mono_l k).2 x5 x17 x18 x22 x23 x302000 x302001 x302002 x306000 x306001 x306002)
noncomputable def impl_ShortenFrieze.l1v (x5 : Int) (x17 : Int) (x18 : Int) (x22 : Int) (x23 : Int) (x302000 : Int) (x302001 : Int) (x302002 : List Int) (x306000 : Int) (x306001 : Int) (x306002 : List Int) : Option (Int × Int × List Int × Int) := lim (fun k => impl_ShortenFrieze.l1 k x5 x17 x18 x22 x23 x302000 x302001 x302002 x306000 x306001 x306002)
theorem impl_ShortenFrieze.l1_lim (x5 : Int) (x17 : Int) (x18 : Int) (x22 : Int) (x23 : Int) (x302000 : Int) (x302001 : Int) (x302002 : List Int) (x306000 : Int) (x306001 : Int) (x306002 : List Int) : Lim (fun k => impl_ShortenFrieze.l1 k x5 x17 x18 x22 x23 x302000 x302001 x302002 x306000 x306001 x306002) (impl_ShortenFrieze.l1v x5 x17 x18 x22 x23 x302000 x302001 x302002 x306000 x306001 x306002) := lim_Lim (impl_ShortenFrieze.l1_mono x5 x17 x18 x22 x23 x302000 x302001 x302002 x306000 x306001 x306002)
theorem impl_ShortenFrieze.f_mono (a0_0 : Int) (a0_1 : Int) (l0_2 : List Int) : Mono (fun k => impl_ShortenFrieze.f k a0_0 a0_1 l0_2) := (fun k => impl_ShortenFrieze.mono a0_0 a0_1 l0_2 k)
noncomputable def impl_ShortenFrieze.fv (a0_0 : Int) (a0_1 : Int) (l0_2 : List Int) : Option (Int × Int × List Int × Int) := lim (fun k => impl_ShortenFrieze.f k a0_0 a0_1 l0_2)
theorem impl_ShortenFrieze.f_lim (a0_0 : Int) (a0_1 : Int) (l0_2 : List Int) : Lim (fun k => impl_ShortenFrieze.f k a0_0 a0_1 l0_2) (impl_ShortenFrieze.fv a0_0 a0_1 l0_2) := lim_Lim (impl_ShortenFrieze.f_mono a0_0 a0_1 l0_2)
theorem impl_ShortenFrieze.l0v_eq (x17 : Int) (x18 : Int) (x302000 : Int) (x302001 : Int) (x302002 : List Int) (x306000 : Int) (x306001 : Int) (x306002 : List Int) : impl_ShortenFrieze.l0v x17 x18 x302000 x302001 x302002 x306000 x306001 x306002 = if x18 < x17 then (impl_ShortenFrieze.l1v x18 x17 x18 x306001 0 x302000 x302001 x302002 x306000 x306001 x306002) else (some (x306000, x306001, x306002, 0)) := by
  refine lim_step (impl_ShortenFrieze.l0_mono x17 x18 x302000 x302001 x302002 x306000 x306001 x306002) (fun k => by rw [impl_ShortenFrieze.l0]) (f := fun k => if x18 < x17 then (impl_ShortenFrieze.l1 k x18 x17 x18 x306001 0 x302000 x302001 x302002 x306000 x306001 x306002) else (some (x306000, x306001, x306002, 0))) ?_
  repeat' first
    | (with_reducible exact impl_ShortenFrieze.l1_lim _ _ _ _ _ _ _ _ _ _ _)
    | exact Lim.const _
    | refine Lim.ite ?_ ?_
    | refine Lim.bind ?_ (fun _ => ?_)
theorem impl_ShortenFrieze.l1v_eq (x5 : Int) (x17 : Int) (x18 : Int) (x22 : Int) (x23 : Int) (x302000 : Int) (x302001 : Int) (x302002 : List Int) (x306000 : Int) (x306001 : Int) (x306002 : List Int) : impl_ShortenFrieze.l1v x5 x17 x18 x22 x23 x302000 x302001 x302002 x306000 x306001 x306002 = if x23 < x22 then ((impl_Frieze_at.f x302000 x302001 x302002 x23 x5).bind fun t306 => (if x306002.length < 17592186044416 then (impl_ShortenFrieze.l1v x5 x17 x18 x22 (wrap64 (x23 + 1)) x302000 x302001 x302002 x306000 x306001 (x306002 ++ [t306])) else (none))) else (impl_ShortenFrieze.l0v x17 (wrap64 (x18 + 1)) x302000 x302001 x302002 x306000 x306001 x306002) := by
  refine lim_step (impl_ShortenFrieze.l1_mono x5 x17 x18 x22 x23 x302000 x302001 x302002 x306000 x306001 x306002) (fun k => by rw [impl_ShortenFrieze.l1]) (f := fun k => if x23 < x22 then ((impl_Frieze_at.f x302000 x302001 x302002 x23 x5).bind fun t306 => (if x306002.length < 17592186044416 then (impl_ShortenFrieze.l1 k x5 x17 x18 x22 (wrap64 (x23 + 1)) x302000 x302001 x302002 x306000 x306001 (x306002 ++ [t306])) else (none))) else (impl_ShortenFrieze.l0 k x17 (wrap64 (x18 + 1)) x302000 x302001 x302002 x306000 x306001 x306002)) ?_
  repeat' first
    | (with_reducible exact impl_ShortenFrieze.l0_lim _ _ _ _ _ _ _ _)
    | (with_reducible exact impl_ShortenFrieze.l1_lim _ _ _ _ _ _ _ _ _ _ _)
    | exact Lim.const _
    | refine Lim.ite ?_ ?_
    | refine Lim.bind ?_ (fun _ => ?_)
theorem impl_ShortenFrieze.fv_eq (a0_0 : Int) (a0_1 : Int) (l0_2 : List Int) : impl_ShortenFrieze.fv a0_0 a0_1 l0_2 = (impl_IsFrieze.f a0_0 a0_1 l0_2).bind fun t303 => (if t303 = true then ((impl_Frieze_period.fv a0_0 a0_1 l0_2).bind fun t304 => (impl_ShortenFrieze.l0v a0_0 0 a0_0 a0_1 l0_2 a0_0 t304 ([] : List Int))) else (some (0, 0, ([] : List Int), 1))) := by
  refine lim_now (fun k => rfl) (f := fun k => (impl_IsFrieze.f a0_0 a0_1 l0_2).bind fun t303 => (if t303 = true then ((impl_Frieze_period.f k a0_0 a0_1 l0_2).bind fun t304 => (impl_ShortenFrieze.l0 k a0_0 0 a0_0 a0_1 l0_2 a0_0 t304 ([] : List Int))) else (some (0, 0, ([] : List Int), 1)))) ?_
  repeat' first
    | (with_reducible exact impl_Frieze_period.f_lim _ _ _)
    | (with_reducible exact impl_ShortenFrieze.l0_lim _ _ _ _ _ _ _ _)
    | exact Lim.const _
    | refine Lim.ite ?_ ?_
    | refine Lim.bind ?_ (fun _ => ?_)
end Go.Proofs.Ytjjockhekaccnaa.X
namespace Go.Proofs.Ytjjockhekaccnaa.X
open Go.RowKit Go.Proofs.YtjjockhekaccnaaW.PrintWords Go.Proofs.YtjjockhekaccnaaW.PrintLast Go.Proofs.YtjjockhekaccnaaW.PrintMore
attribute [local go_sem] max2_int min2_int max_two min_two max_three min_three max_four min_four   -- for this text's walks alone
set_option linter.unusedVariables false
set_option linter.unusedSimpArgs false

open Go.Proofs.YtjjockhekaccnaaW.PrintWords
/-! ### spec_ShortenFrieze -/
theorem spec_ShortenFrieze.l0_mono (x5 : Int) (x290000 : Int) (x290001 : Int) (x290002 : List Int) (x297000 : Int) (x297001 : Int) (x297002 : List Int) : Mono (fun k => spec_ShortenFrieze.l0 k x5 x290000 x290001 x290002 x297000 x297001 x297002) := (fun k => (spec_ShortenFrieze.mono_l k).1 x5 x290000 x290001 x290002 x297000 x297001 x297002)
noncomputable def spec_ShortenFrieze.l0v (x5 : Int) (x290000 : Int) (x290001 : Int) (x290002 : List Int) (x297000 : Int) (x297001 : Int) (x297002 : List Int) : Option (Int × Int × List Int × Int) := lim (fun k => spec_ShortenFrieze.l0 k x5 x290000 x290001 x290002 x297000 x297001 x297002)
theorem spec_ShortenFrieze.l0_lim (x5 : Int) (x290000 : Int) (x290001 : Int) (x290002 : List Int) (x297000 : Int) (x297001 : Int) (x297002 : List Int) : Lim (fun k => spec_ShortenFrieze.l0 k x5 x290000 x290001 x290002 x297000 x297001 x297002) (spec_ShortenFrieze.l0v x5 x290000 x290001 x290002 x297000 x297001 x297002) := lim_Lim (spec_ShortenFrieze.l0_mono x5 x290000 x290001 x290002 x297000 x297001 x297002)
theorem spec_ShortenFrieze.l1_mono (x5 : Int) (x6 : Int) (x290000 : Int) (x290001 : Int) (x290002 : List Int) (x297000 : Int) (x297001 : Int) (x297002 : List Int) : Mono (fun k => spec_ShortenFrieze.l1 k x5 x6 x290000 x290001 x290002 x297000 x297001 x297002) := (fun k => (spec_ShortenFrieze.mono_l k).2 x5 x6 x290000 x290001 x290002 x297000 x297001 x297002)
noncomputable def spec_ShortenFrieze.l1v (x5 : Int) (x6 : Int) (x290000 : Int) (x290001 : Int) (x290002 : List Int) (x297000 : Int) (x297001 : Int) (x297002 : List Int) : Option (Int × Int × List Int × Int) := lim (fun k => spec_ShortenFrieze.l1 k x5 x6 x290000 x290001 x290002 x297000 x297001 x297002)
theorem spec_ShortenFrieze.l1_lim (x5 : Int) (x6 : Int) (x290000 : Int) (x290001 : Int) (x290002 : List Int) (x297000 : Int) (x297001 : Int) (x297002 : List Int) : Lim (fun k => spec_ShortenFrieze.l1 k x5 x6 x290000 x290001 x290002 x297000 x297001 x297002) (spec_ShortenFrieze.l1v x5 x6 x290000 x290001 x290002 x297000 x297001 x297002) := lim_Lim (spec_ShortenFrieze.l1_mono x5 x6 x290000 x290001 x290002 x297000 x297001 x297002)
theorem spec_ShortenFrieze.f_mono (a0_0 : Int) (a0_1 : Int) (l0_2 : List Int) : Mono (fun k => spec_ShortenFrieze.f k a0_0 a0_1 l0_2) := (fun k => spec_ShortenFrieze.mono a0_0 a0_1 l0_2 k)
noncomputable def spec_ShortenFrieze.fv (a0_0 : Int) (a0_1 : Int) (l0_2 : List Int) : Option (Int × Int × List Int × Int) := lim (fun k => spec_ShortenFrieze.f k a0_0 a0_1 l0_2)
theorem spec_ShortenFrieze.f_lim (a0_0 : Int) (a0_1 : Int) (l0_2 : List Int) : Lim (fun k => spec_ShortenFrieze.f k a0_0 a0_1 l0_2) (spec_ShortenFrieze.fv a0_0 a0_1 l0_2) := lim_Lim (spec_ShortenFrieze.f_mono a0_0 a0_1 l0_2)
theorem spec_ShortenFrieze.l0v_eq (x5 : Int) (x290000 : Int) (x290001 : Int) (x290002 : List Int) (x297000 : Int) (x297001 : Int) (x297002 : List Int) : spec_ShortenFrieze.l0v x5 x290000 x290001 x290002 x297000 x297001 x297002 = if x5 < x290000 then (spec_ShortenFrieze.l1v x5 0 x290000 x290001 x290002 x297000 x297001 x297002) else (some (x297000, x297001, x297002, 0)) := by
  refine lim_step (spec_ShortenFrieze.l0_mono x5 x290000 x290001 x290002 x297000 x297001 x297002) (fun k => by rw [spec_ShortenFrieze.l0]) (f := fun k => if x5 < x290000 then (spec_ShortenFrieze.l1 k x5 0 x290000 x290001 x290002 x297000 x297001 x297002) else (some (x297000, x297001, x297002, 0))) ?_
  repeat' first
    | (with_reducible exact spec_ShortenFrieze.l1_lim _ _ _ _ _ _ _ _)
    | exact Lim.const _
    | refine Lim.ite ?_ ?_
    | refine Lim.bind ?_ (fun _ => ?_)
theorem spec_ShortenFrieze.l1v_eq (x5 : Int) (x6 : Int) (x290000 : Int) (x290001 : Int) (x290002 : List Int) (x297000 : Int) (x297001 : Int) (x297002 : List Int) : spec_ShortenFrieze.l1v x5 x6 x290000 x290001 x290002 x297000 x297001 x297002 = if x6 < x297001 then ((spec_l08At.f x290000 x290001 x290002 x6 x5).bind fun t297 => (if x297002.length < 17592186044416 then (spec_ShortenFrieze.l1v x5 (wrap64 (x6 + 1)) x290000 x290001 x290002 x297000 x297001 (x297002 ++ [t297])) else (none))) else (spec_ShortenFrieze.l0v (wrap64 (x5 + 1)) x290000 x290001 x290002 x297000 x297001 x297002) := by
  refine lim_step (spec_ShortenFrieze.l1_mono x5 x6 x290000 x290001 x290002 x297000 x297001 x297002) (fun k => by rw [spec_ShortenFrieze.l1]) (f := fun k => if x6 < x297001 then ((spec_l08At.f x290000 x290001 x290002 x6 x5).bind fun t297 => (if x297002.length < 17592186044416 then (spec_ShortenFrieze.l1 k x5 (wrap64 (x6 + 1)) x290000 x290001 x290002 x297000 x297001 (x297002 ++ [t297])) else (none))) else (spec_ShortenFrieze.l0 k (wrap64 (x5 + 1)) x290000 x290001 x290002 x297000 x297001 x297002)) ?_
  repeat' first
    | (with_reducible exact spec_ShortenFrieze.l0_lim _ _ _ _ _ _ _)
    | (with_reducible exact spec_ShortenFrieze.l1_lim _ _ _ _ _ _ _ _)
    | exact Lim.const _
    | refine Lim.ite ?_ ?_
    | refine Lim.bind ?_ (fun _ => ?_)
theorem spec_ShortenFrieze.fv_eq (a0_0 : Int) (a0_1 : Int) (l0_2 : List Int) : spec_ShortenFrieze.fv a0_0 a0_1 l0_2 = (spec_IsFrieze.fv a0_0 a0_1 l0_2).bind fun t291 => (if t291 = true then ((spec_l08Period.fv a0_0 a0_1 l0_2).bind fun t292 => (spec_ShortenFrieze.l0v 0 a0_0 a0_1 l0_2 a0_0 t292 (([] : List Int)))) else (some (0, 0, ([] : List Int), 1))) := by
  refine lim_now (fun k => rfl) (f := fun k => (spec_IsFrieze.f k a0_0 a0_1 l0_2).bind fun t291 => (if t291 = true then ((spec_l08Period.f k a0_0 a0_1 l0_2).bind fun t292 => (spec_ShortenFrieze.l0 k 0 a0_0 a0_1 l0_2 a0_0 t292 (([] : List Int)))) else (some (0, 0, ([] : List Int), 1)))) ?_
  repeat' first
    | (with_reducible exact spec_IsFrieze.f_lim _ _ _)
    | (with_reducible exact spec_ShortenFrieze.l0_lim _ _ _ _ _ _ _)
    | (with_reducible exact spec_l08Period.f_lim _ _ _)
    | exact Lim.const _
    | refine Lim.ite ?_ ?_
    | refine Lim.bind ?_ (fun _ => ?_)
end Go.Proofs.Ytjjockhekaccnaa.X
namespace Go.Proofs.Ytjjockhekaccnaa.X
open Go.RowKit Go.Proofs.YtjjockhekaccnaaW.PrintWords Go.Proofs.YtjjockhekaccnaaW.PrintLast Go.Proofs.YtjjockhekaccnaaW.PrintMore
attribute [local go_sem] max2_int min2_int max_two min_two max_three min_three max_four min_four   -- for this text's walks alone
set_option linter.unusedVariables false
set_option linter.unusedSimpArgs false

open Go.Proofs.YtjjockhekaccnaaW.PrintWords
/-! ### laws_FnExactShortenFrieze -/
theorem laws_FnExactShortenFrieze.f_mono (a0_0 : Int) (a0_1 : Int) (l0_2 : List Int) : Mono (fun k => laws_FnExactShortenFrieze.f k a0_0 a0_1 l0_2) := (fun k => laws_FnExactShortenFrieze.mono a0_0 a0_1 l0_2 k)
noncomputable def laws_FnExactShortenFrieze.fv (a0_0 : Int) (a0_1 : Int) (l0_2 : List Int) : Option (Bool) := lim (fun k => laws_FnExactShortenFrieze.f k a0_0 a0_1 l0_2)
theorem laws_FnExactShortenFrieze.f_lim (a0_0 : Int) (a0_1 : Int) (l0_2 : List Int) : Lim (fun k => laws_FnExactShortenFrieze.f k a0_0 a0_1 l0_2) (laws_FnExactShortenFrieze.fv a0_0 a0_1 l0_2) := lim_Lim (laws_FnExactShortenFrieze.f_mono a0_0 a0_1 l0_2)
theorem laws_FnExactShortenFrieze.fv_eq (a0_0 : Int) (a0_1 : Int) (l0_2 : List Int) : laws_FnExactShortenFrieze.fv a0_0 a0_1 l0_2 = (laws_szFrieze.f a0_0 a0_1 l0_2 1048576).bind fun t311 => (if t311 < 0 then (some true) else ((laws_toFrieze.fv a0_0 a0_1 l0_2).bind fun bt312 => ((spec_ShortenFrieze.fv bt312.1 bt312.2.1 bt312.2.2).bind fun bt317 => ((laws_toFrieze.fv a0_0 a0_1 l0_2).bind fun bt324 => ((impl_ShortenFrieze.fv bt324.1 bt324.2.1 bt324.2.2).bind fun bt330 => ((laws_eqFrieze.fv bt330.1 bt330.2.1 bt330.2.2.1 bt317.1 bt317.2.1 bt317.2.2.1).bind fun t337 => (if t337 = true then (if bt330.2.2.2 = bt317.2.2.2 then ((laws_toFrieze.fv a0_0 a0_1 l0_2).bind fun bt338 => ((laws_eqFrieze.fv bt324.1 bt324.2.1 bt324.2.2 bt338.1 bt338.2.1 bt338.2.2).bind fun t343 => (if t343 = true then ((laws_markFrieze.fv bt324.1 bt324.2.1 bt324.2.2 1).bind fun bt344 => (if bt344.1 < 0 then (none) else ((laws_eqFrieze.fv bt330.1 bt330.2.1 bt330.2.2.1 bt317.1 bt317.2.1 bt317.2.2.1).bind fun t346 => (if t346 = true then ((laws_markFrieze.fv bt330.1 bt330.2.1 bt330.2.2.1 1).bind fun bt347 => ((laws_heldFrieze.fv bt330.1 bt330.2.1 bt347.2 1).bind fun t349 => (if t349 < 0 then (none) else (if t349 = bt347.1 then ((laws_toFrieze.fv a0_0 a0_1 l0_2).bind fun bt350 => ((impl_ShortenFrieze.fv bt350.1 bt350.2.1 bt350.2.2).bind fun bt355 => ((laws_eqFrieze.fv bt355.1 bt355.2.1 bt355.2.2.1 bt317.1 bt317.2.1 bt317.2.2.1).bind fun t362 => (if t362 = true then (if bt355.2.2.2 = bt317.2.2.2 then ((laws_heldFrieze.fv bt330.1 bt330.2.1 bt347.2 1).bind fun t363 => (if t363 < 0 then (none) else (if t363 = bt347.1 then (some true) else (none)))) else (none)) else (none))))) else (none))))) else (none))))) else (none)))) else (none)) else (none)))))))) := by
  refine lim_now (fun k => rfl) (f := fun k => (laws_szFrieze.f a0_0 a0_1 l0_2 1048576).bind fun t311 => (if t311 < 0 then (some true) else ((laws_toFrieze.f k a0_0 a0_1 l0_2).bind fun bt312 => ((spec_ShortenFrieze.f k bt312.1 bt312.2.1 bt312.2.2).bind fun bt317 => ((laws_toFrieze.f k a0_0 a0_1 l0_2).bind fun bt324 => ((impl_ShortenFrieze.f k bt324.1 bt324.2.1 bt324.2.2).bind fun bt330 => ((laws_eqFrieze.f k bt330.1 bt330.2.1 bt330.2.2.1 bt317.1 bt317.2.1 bt317.2.2.1).bind fun t337 => (if t337 = true then (if bt330.2.2.2 = bt317.2.2.2 then ((laws_toFrieze.f k a0_0 a0_1 l0_2).bind fun bt338 => ((laws_eqFrieze.f k bt324.1 bt324.2.1 bt324.2.2 bt338.1 bt338.2.1 bt338.2.2).bind fun t343 => (if t343 = true then ((laws_markFrieze.f k bt324.1 bt324.2.1 bt324.2.2 1).bind fun bt344 => (if bt344.1 < 0 then (none) else ((laws_eqFrieze.f k bt330.1 bt330.2.1 bt330.2.2.1 bt317.1 bt317.2.1 bt317.2.2.1).bind fun t346 => (if t346 = true then ((laws_markFrieze.f k bt330.1 bt330.2.1 bt330.2.2.1 1).bind fun bt347 => ((laws_heldFrieze.f k bt330.1 bt330.2.1 bt347.2 1).bind fun t349 => (if t349 < 0 then (none) else (if t349 = bt347.1 then ((laws_toFrieze.f k a0_0 a0_1 l0_2).bind fun bt350 => ((impl_ShortenFrieze.f k bt350.1 bt350.2.1 bt350.2.2).bind fun bt355 => ((laws_eqFrieze.f k bt355.1 bt355.2.1 bt355.2.2.1 bt317.1 bt317.2.1 bt317.2.2.1).bind fun t362 => (if t362 = true then (if bt355.2.2.2 = bt317.2.2.2 then ((laws_heldFrieze.f k bt330.1 bt330.2.1 bt347.2 1).bind fun t363 => (if t363 < 0 then (none) else (if t363 = bt347.1 then (some true) else (none)))) else (none)) else (none))))) else (none))))) else (none))))) else (none)))) else (none)) else (none))))))))) ?_
  repeat' first
    | (with_reducible exact impl_ShortenFrieze.f_lim _ _ _)
    | (with_reducible exact laws_eqFrieze.f_lim _ _ _ _ _ _)
    | (with_reducible exact laws_heldFrieze.f_lim _ _ _ _)
    | (with_reducible exact laws_markFrieze.f_lim _ _ _ _)
    | (with_reducible exact laws_toFrieze.f_lim _ _ _)
    | (with_reducible exact spec_ShortenFrieze.f_lim _ _ _)
    | exact Lim.const _
    | refine Lim.ite ?_ ?_
    | refine Lim.bind ?_ (fun _ => ?_)
end Go.Proofs.Ytjjockhekaccnaa.X
