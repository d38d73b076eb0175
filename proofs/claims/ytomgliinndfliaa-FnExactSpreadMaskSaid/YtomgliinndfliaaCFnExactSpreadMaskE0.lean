/- Part of the proof of the law FnExactSpreadMask: equations of the plain functions. No condition of its own. -/
import Derived.Test.YtomgliinndfliaaCFnExactSpreadMaskD0
namespace Go.Proofs.Ytomgliinndfliaa.X
open Go.RowKit Go.Proofs.YtomgliinndfliaaW.PrintWords Go.Proofs.YtomgliinndfliaaW.PrintLast Go.Proofs.YtomgliinndfliaaW.PrintMore
attribute [local go_sem] max2_int min2_int max_two min_two max_three min_three max_four min_four   -- for this text's walks alone
set_option linter.unusedVariables false
set_option linter.unusedSimpArgs false

open Go.Proofs.YtomgliinndfliaaW.PrintWords
/-! ### laws_eqInt64S -/
theorem laws_eqInt64S.l0_mono (x0 : List Int) (x1 : List Int) (x5 : Int) : Mono (fun k => laws_eqInt64S.l0 k x0 x1 x5) := (fun k => (laws_eqInt64S.mono_l k) x0 x1 x5)
noncomputable def laws_eqInt64S.l0v (x0 : List Int) (x1 : List Int) (x5 : Int) : Option (Bool) := lim (fun k => laws_eqInt64S.l0 k x0 x1 x5)
theorem laws_eqInt64S.l0_lim (x0 : List Int) (x1 : List Int) (x5 : Int) : Lim (fun k => laws_eqInt64S.l0 k x0 x1 x5) (laws_eqInt64S.l0v x0 x1 x5) := lim_Lim (laws_eqInt64S.l0_mono x0 x1 x5)
theorem laws_eqInt64S.f_mono (l0 : List Int) (l1 : List Int) : Mono (fun k => laws_eqInt64S.f k l0 l1) := (fun k => laws_eqInt64S.mono l0 l1 k)
noncomputable def laws_eqInt64S.fv (l0 : List Int) (l1 : List Int) : Option (Bool) := lim (fun k => laws_eqInt64S.f k l0 l1)
theorem laws_eqInt64S.f_lim (l0 : List Int) (l1 : List Int) : Lim (fun k => laws_eqInt64S.f k l0 l1) (laws_eqInt64S.fv l0 l1) := lim_Lim (laws_eqInt64S.f_mono l0 l1)
theorem laws_eqInt64S.l0v_eq (x0 : List Int) (x1 : List Int) (x5 : Int) : laws_eqInt64S.l0v x0 x1 x5 = if x5 < (x0.length : Int) then (if 0 ≤ x5 then (if x5 < (x1.length : Int) then (if (rd x0 x5) = (rd x1 x5) then (laws_eqInt64S.l0v x0 x1 (wrap64 (x5 + 1))) else (some false)) else (none)) else (none)) else (some true) := by
  refine lim_step (laws_eqInt64S.l0_mono x0 x1 x5) (fun k => by rw [laws_eqInt64S.l0]) (f := fun k => if x5 < (x0.length : Int) then (if 0 ≤ x5 then (if x5 < (x1.length : Int) then (if (rd x0 x5) = (rd x1 x5) then (laws_eqInt64S.l0 k x0 x1 (wrap64 (x5 + 1))) else (some false)) else (none)) else (none)) else (some true)) ?_
  repeat' first
    | (with_reducible exact laws_eqInt64S.l0_lim _ _ _)
    | exact Lim.const _
    | refine Lim.ite ?_ ?_
    | refine Lim.bind ?_ (fun _ => ?_)
theorem laws_eqInt64S.fv_eq (l0 : List Int) (l1 : List Int) : laws_eqInt64S.fv l0 l1 = if (l0.length : Int) = (l1.length : Int) then (laws_eqInt64S.l0v l0 l1 0) else (some false) := by
  refine lim_now (fun k => rfl) (f := fun k => if (l0.length : Int) = (l1.length : Int) then (laws_eqInt64S.l0 k l0 l1 0) else (some false)) ?_
  repeat' first
    | (with_reducible exact laws_eqInt64S.l0_lim _ _ _)
    | exact Lim.const _
    | refine Lim.ite ?_ ?_
    | refine Lim.bind ?_ (fun _ => ?_)

open Go.Proofs.YtomgliinndfliaaW.PrintWords
/-! ### laws_heldInt64S -/
theorem laws_heldInt64S.l0_mono (x0 : List Int) (x1 : Int) (x5 : Int) : Mono (fun k => laws_heldInt64S.l0 k x0 x1 x5) := (fun k => (laws_heldInt64S.mono_l k) x0 x1 x5)
noncomputable def laws_heldInt64S.l0v (x0 : List Int) (x1 : Int) (x5 : Int) : Option (Int) := lim (fun k => laws_heldInt64S.l0 k x0 x1 x5)
theorem laws_heldInt64S.l0_lim (x0 : List Int) (x1 : Int) (x5 : Int) : Lim (fun k => laws_heldInt64S.l0 k x0 x1 x5) (laws_heldInt64S.l0v x0 x1 x5) := lim_Lim (laws_heldInt64S.l0_mono x0 x1 x5)
theorem laws_heldInt64S.f_mono (l0 : List Int) (a1 : Int) : Mono (fun k => laws_heldInt64S.f k l0 a1) := (fun k => laws_heldInt64S.mono l0 a1 k)
noncomputable def laws_heldInt64S.fv (l0 : List Int) (a1 : Int) : Option (Int) := lim (fun k => laws_heldInt64S.f k l0 a1)
theorem laws_heldInt64S.f_lim (l0 : List Int) (a1 : Int) : Lim (fun k => laws_heldInt64S.f k l0 a1) (laws_heldInt64S.fv l0 a1) := lim_Lim (laws_heldInt64S.f_mono l0 a1)
theorem laws_heldInt64S.l0v_eq (x0 : List Int) (x1 : Int) (x5 : Int) : laws_heldInt64S.l0v x0 x1 x5 = if x5 < (x0.length : Int) then (if 0 ≤ x5 then (if (rd x0 x5) = x1 then (laws_heldInt64S.l0v x0 (wrap64 (x1 + 1)) (wrap64 (x5 + 1))) else (some (-1))) else (none)) else (some x1) := by
  refine lim_step (laws_heldInt64S.l0_mono x0 x1 x5) (fun k => by rw [laws_heldInt64S.l0]) (f := fun k => if x5 < (x0.length : Int) then (if 0 ≤ x5 then (if (rd x0 x5) = x1 then (laws_heldInt64S.l0 k x0 (wrap64 (x1 + 1)) (wrap64 (x5 + 1))) else (some (-1))) else (none)) else (some x1)) ?_
  repeat' first
    | (with_reducible exact laws_heldInt64S.l0_lim _ _ _)
    | exact Lim.const _
    | refine Lim.ite ?_ ?_
    | refine Lim.bind ?_ (fun _ => ?_)
theorem laws_heldInt64S.fv_eq (l0 : List Int) (a1 : Int) : laws_heldInt64S.fv l0 a1 = laws_heldInt64S.l0v l0 a1 0 := by
  refine lim_now (fun k => rfl) (f := fun k => laws_heldInt64S.l0 k l0 a1 0) ?_
  repeat' first
    | (with_reducible exact laws_heldInt64S.l0_lim _ _ _)
    | exact Lim.const _
    | refine Lim.ite ?_ ?_
    | refine Lim.bind ?_ (fun _ => ?_)

open Go.Proofs.YtomgliinndfliaaW.PrintWords
/-! ### laws_markInt64S -/
theorem laws_markInt64S.l0_mono (x0 : List Int) (x1 : Int) (x5 : Int) : Mono (fun k => laws_markInt64S.l0 k x0 x1 x5) := (fun k => (laws_markInt64S.mono_l k) x0 x1 x5)
noncomputable def laws_markInt64S.l0v (x0 : List Int) (x1 : Int) (x5 : Int) : Option (Int × List Int) := lim (fun k => laws_markInt64S.l0 k x0 x1 x5)
theorem laws_markInt64S.l0_lim (x0 : List Int) (x1 : Int) (x5 : Int) : Lim (fun k => laws_markInt64S.l0 k x0 x1 x5) (laws_markInt64S.l0v x0 x1 x5) := lim_Lim (laws_markInt64S.l0_mono x0 x1 x5)
theorem laws_markInt64S.f_mono (l0 : List Int) (a1 : Int) : Mono (fun k => laws_markInt64S.f k l0 a1) := (fun k => laws_markInt64S.mono l0 a1 k)
noncomputable def laws_markInt64S.fv (l0 : List Int) (a1 : Int) : Option (Int × List Int) := lim (fun k => laws_markInt64S.f k l0 a1)
theorem laws_markInt64S.f_lim (l0 : List Int) (a1 : Int) : Lim (fun k => laws_markInt64S.f k l0 a1) (laws_markInt64S.fv l0 a1) := lim_Lim (laws_markInt64S.f_mono l0 a1)
theorem laws_markInt64S.l0v_eq (x0 : List Int) (x1 : Int) (x5 : Int) : laws_markInt64S.l0v x0 x1 x5 = if x5 < (x0.length : Int) then (if 0 ≤ x5 then (laws_markInt64S.l0v (x0.set (x5 : Int).toNat x1) (wrap64 (x1 + 1)) (wrap64 (x5 + 1))) else (none)) else (some (x1, x0)) := by
  refine lim_step (laws_markInt64S.l0_mono x0 x1 x5) (fun k => by rw [laws_markInt64S.l0]) (f := fun k => if x5 < (x0.length : Int) then (if 0 ≤ x5 then (laws_markInt64S.l0 k (x0.set (x5 : Int).toNat x1) (wrap64 (x1 + 1)) (wrap64 (x5 + 1))) else (none)) else (some (x1, x0))) ?_
  repeat' first
    | (with_reducible exact laws_markInt64S.l0_lim _ _ _)
    | exact Lim.const _
    | refine Lim.ite ?_ ?_
    | refine Lim.bind ?_ (fun _ => ?_)
theorem laws_markInt64S.fv_eq (l0 : List Int) (a1 : Int) : laws_markInt64S.fv l0 a1 = laws_markInt64S.l0v l0 a1 0 := by
  refine lim_now (fun k => rfl) (f := fun k => laws_markInt64S.l0 k l0 a1 0) ?_
  repeat' first
    | (with_reducible exact laws_markInt64S.l0_lim _ _ _)
    | exact Lim.const _
    | refine Lim.ite ?_ ?_
    | refine Lim.bind ?_ (fun _ => ?_)

open Go.Proofs.YtomgliinndfliaaW.PrintWords
/-! ### laws_toInt64S -/
theorem laws_toInt64S.l0_mono (x0 : List Int) (x3 : List Int) (x4 : Int) : Mono (fun k => laws_toInt64S.l0 k x0 x3 x4) := (fun k => (laws_toInt64S.mono_l k) x0 x3 x4)
noncomputable def laws_toInt64S.l0v (x0 : List Int) (x3 : List Int) (x4 : Int) : Option (List Int) := lim (fun k => laws_toInt64S.l0 k x0 x3 x4)
theorem laws_toInt64S.l0_lim (x0 : List Int) (x3 : List Int) (x4 : Int) : Lim (fun k => laws_toInt64S.l0 k x0 x3 x4) (laws_toInt64S.l0v x0 x3 x4) := lim_Lim (laws_toInt64S.l0_mono x0 x3 x4)
theorem laws_toInt64S.f_mono (l0 : List Int) : Mono (fun k => laws_toInt64S.f k l0) := (fun k => laws_toInt64S.mono l0 k)
noncomputable def laws_toInt64S.fv (l0 : List Int) : Option (List Int) := lim (fun k => laws_toInt64S.f k l0)
theorem laws_toInt64S.f_lim (l0 : List Int) : Lim (fun k => laws_toInt64S.f k l0) (laws_toInt64S.fv l0) := lim_Lim (laws_toInt64S.f_mono l0)
theorem laws_toInt64S.l0v_eq (x0 : List Int) (x3 : List Int) (x4 : Int) : laws_toInt64S.l0v x0 x3 x4 = if x4 < (x0.length : Int) then (if 0 ≤ x4 then (if x4 < (x3.length : Int) then (laws_toInt64S.l0v x0 (x3.set (x4 : Int).toNat (rd x0 x4)) (wrap64 (x4 + 1))) else (none)) else (none)) else (some x3) := by
  refine lim_step (laws_toInt64S.l0_mono x0 x3 x4) (fun k => by rw [laws_toInt64S.l0]) (f := fun k => if x4 < (x0.length : Int) then (if 0 ≤ x4 then (if x4 < (x3.length : Int) then (laws_toInt64S.l0 k x0 (x3.set (x4 : Int).toNat (rd x0 x4)) (wrap64 (x4 + 1))) else (none)) else (none)) else (some x3)) ?_
  repeat' first
    | (with_reducible exact laws_toInt64S.l0_lim _ _ _)
    | exact Lim.const _
    | refine Lim.ite ?_ ?_
    | refine Lim.bind ?_ (fun _ => ?_)
theorem laws_toInt64S.fv_eq (l0 : List Int) : laws_toInt64S.fv l0 = if 0 ≤ (l0.length : Int) then (if ((l0.length : Int) : Int).toNat ≤ 35184372088832 then (laws_toInt64S.l0v l0 (List.replicate ((l0.length : Int) : Int).toNat 0) 0) else (none)) else (none) := by
  refine lim_now (fun k => rfl) (f := fun k => if 0 ≤ (l0.length : Int) then (if ((l0.length : Int) : Int).toNat ≤ 35184372088832 then (laws_toInt64S.l0 k l0 (List.replicate ((l0.length : Int) : Int).toNat 0) 0) else (none)) else (none)) ?_
  repeat' first
    | (with_reducible exact laws_toInt64S.l0_lim _ _ _)
    | exact Lim.const _
    | refine Lim.ite ?_ ?_
    | refine Lim.bind ?_ (fun _ => ?_)

open Go.Proofs.YtomgliinndfliaaW.PrintWords
/-! ### spec_l01Within -/
theorem spec_l01Within.l0_mono (x0 : List Int) (x1 : Int) (x2 : Int) (x3 : Int) (x9 : Int) : Mono (fun k => spec_l01Within.l0 k x0 x1 x2 x3 x9) := (fun k => (spec_l01Within.mono_l k) x0 x1 x2 x3 x9)
noncomputable def spec_l01Within.l0v (x0 : List Int) (x1 : Int) (x2 : Int) (x3 : Int) (x9 : Int) : Option (Bool) := lim (fun k => spec_l01Within.l0 k x0 x1 x2 x3 x9)
theorem spec_l01Within.l0_lim (x0 : List Int) (x1 : Int) (x2 : Int) (x3 : Int) (x9 : Int) : Lim (fun k => spec_l01Within.l0 k x0 x1 x2 x3 x9) (spec_l01Within.l0v x0 x1 x2 x3 x9) := lim_Lim (spec_l01Within.l0_mono x0 x1 x2 x3 x9)
theorem spec_l01Within.f_mono (l0 : List Int) (a1 : Int) (a2 : Int) (a3 : Int) : Mono (fun k => spec_l01Within.f k l0 a1 a2 a3) := (fun k => spec_l01Within.mono l0 a1 a2 a3 k)
noncomputable def spec_l01Within.fv (l0 : List Int) (a1 : Int) (a2 : Int) (a3 : Int) : Option (Bool) := lim (fun k => spec_l01Within.f k l0 a1 a2 a3)
theorem spec_l01Within.f_lim (l0 : List Int) (a1 : Int) (a2 : Int) (a3 : Int) : Lim (fun k => spec_l01Within.f k l0 a1 a2 a3) (spec_l01Within.fv l0 a1 a2 a3) := lim_Lim (spec_l01Within.f_mono l0 a1 a2 a3)
theorem spec_l01Within.l0v_eq (x0 : List Int) (x1 : Int) (x2 : Int) (x3 : Int) (x9 : Int) : spec_l01Within.l0v x0 x1 x2 x3 x9 = if x9 < (x0.length : Int) then (if 0 ≤ x9 then ((spec_l01In.f (rd x0 x9) x2 x3).bind fun t104 => (if t104 = true then (spec_l01Within.l0v x0 x1 x2 x3 (wrap64 (x9 + 1))) else (some false))) else (none)) else (some (decide ((x0.length : Int) ≤ x1))) := by
  refine lim_step (spec_l01Within.l0_mono x0 x1 x2 x3 x9) (fun k => by rw [spec_l01Within.l0]) (f := fun k => if x9 < (x0.length : Int) then (if 0 ≤ x9 then ((spec_l01In.f (rd x0 x9) x2 x3).bind fun t104 => (if t104 = true then (spec_l01Within.l0 k x0 x1 x2 x3 (wrap64 (x9 + 1))) else (some false))) else (none)) else (some (decide ((x0.length : Int) ≤ x1)))) ?_
  repeat' first
    | (with_reducible exact spec_l01Within.l0_lim _ _ _ _ _)
    | exact Lim.const _
    | refine Lim.ite ?_ ?_
    | refine Lim.bind ?_ (fun _ => ?_)
theorem spec_l01Within.fv_eq (l0 : List Int) (a1 : Int) (a2 : Int) (a3 : Int) : spec_l01Within.fv l0 a1 a2 a3 = spec_l01Within.l0v l0 a1 a2 a3 0 := by
  refine lim_now (fun k => rfl) (f := fun k => spec_l01Within.l0 k l0 a1 a2 a3 0) ?_
  repeat' first
    | (with_reducible exact spec_l01Within.l0_lim _ _ _ _ _)
    | exact Lim.const _
    | refine Lim.ite ?_ ?_
    | refine Lim.bind ?_ (fun _ => ?_)

open Go.Proofs.YtomgliinndfliaaW.PrintWords
/-! ### laws_eqPattern -/
theorem laws_eqPattern.f_mono (a0_0 : Int) (a0_1 : Int) (a0_2 : Int) (a0_3 : Int) (l0_4 : List Int) (a1_0 : Int) (a1_1 : Int) (a1_2 : Int) (a1_3 : Int) (l1_4 : List Int) : Mono (fun k => laws_eqPattern.f k a0_0 a0_1 a0_2 a0_3 l0_4 a1_0 a1_1 a1_2 a1_3 l1_4) := (fun k => laws_eqPattern.mono a0_0 a0_1 a0_2 a0_3 l0_4 a1_0 a1_1 a1_2 a1_3 l1_4 k)
noncomputable def laws_eqPattern.fv (a0_0 : Int) (a0_1 : Int) (a0_2 : Int) (a0_3 : Int) (l0_4 : List Int) (a1_0 : Int) (a1_1 : Int) (a1_2 : Int) (a1_3 : Int) (l1_4 : List Int) : Option (Bool) := lim (fun k => laws_eqPattern.f k a0_0 a0_1 a0_2 a0_3 l0_4 a1_0 a1_1 a1_2 a1_3 l1_4)
theorem laws_eqPattern.f_lim (a0_0 : Int) (a0_1 : Int) (a0_2 : Int) (a0_3 : Int) (l0_4 : List Int) (a1_0 : Int) (a1_1 : Int) (a1_2 : Int) (a1_3 : Int) (l1_4 : List Int) : Lim (fun k => laws_eqPattern.f k a0_0 a0_1 a0_2 a0_3 l0_4 a1_0 a1_1 a1_2 a1_3 l1_4) (laws_eqPattern.fv a0_0 a0_1 a0_2 a0_3 l0_4 a1_0 a1_1 a1_2 a1_3 l1_4) := lim_Lim (laws_eqPattern.f_mono a0_0 a0_1 a0_2 a0_3 l0_4 a1_0 a1_1 a1_2 a1_3 l1_4)
theorem laws_eqPattern.fv_eq (a0_0 : Int) (a0_1 : Int) (a0_2 : Int) (a0_3 : Int) (l0_4 : List Int) (a1_0 : Int) (a1_1 : Int) (a1_2 : Int) (a1_3 : Int) (l1_4 : List Int) : laws_eqPattern.fv a0_0 a0_1 a0_2 a0_3 l0_4 a1_0 a1_1 a1_2 a1_3 l1_4 = if a0_0 = a1_0 then ((laws_eqLattice.f a0_1 a0_2 a0_3 a1_1 a1_2 a1_3).bind fun t271 => (if t271 = true then ((laws_eqInt64S.fv l0_4 l1_4).bind fun t272 => (if t272 = true then (some true) else (some false))) else (some false))) else (some false) := by
  refine lim_now (fun k => rfl) (f := fun k => if a0_0 = a1_0 then ((laws_eqLattice.f a0_1 a0_2 a0_3 a1_1 a1_2 a1_3).bind fun t271 => (if t271 = true then ((laws_eqInt64S.f k l0_4 l1_4).bind fun t272 => (if t272 = true then (some true) else (some false))) else (some false))) else (some false)) ?_
  repeat' first
    | (with_reducible exact laws_eqInt64S.f_lim _ _)
    | exact Lim.const _
    | refine Lim.ite ?_ ?_
    | refine Lim.bind ?_ (fun _ => ?_)

open Go.Proofs.YtomgliinndfliaaW.PrintWords
/-! ### laws_toPattern -/
theorem laws_toPattern.f_mono (a0_0 : Int) (a0_1 : Int) (a0_2 : Int) (a0_3 : Int) (l0_4 : List Int) : Mono (fun k => laws_toPattern.f k a0_0 a0_1 a0_2 a0_3 l0_4) := (fun k => laws_toPattern.mono a0_0 a0_1 a0_2 a0_3 l0_4 k)
noncomputable def laws_toPattern.fv (a0_0 : Int) (a0_1 : Int) (a0_2 : Int) (a0_3 : Int) (l0_4 : List Int) : Option (Int × Int × Int × Int × List Int) := lim (fun k => laws_toPattern.f k a0_0 a0_1 a0_2 a0_3 l0_4)
theorem laws_toPattern.f_lim (a0_0 : Int) (a0_1 : Int) (a0_2 : Int) (a0_3 : Int) (l0_4 : List Int) : Lim (fun k => laws_toPattern.f k a0_0 a0_1 a0_2 a0_3 l0_4) (laws_toPattern.fv a0_0 a0_1 a0_2 a0_3 l0_4) := lim_Lim (laws_toPattern.f_mono a0_0 a0_1 a0_2 a0_3 l0_4)
theorem laws_toPattern.fv_eq (a0_0 : Int) (a0_1 : Int) (a0_2 : Int) (a0_3 : Int) (l0_4 : List Int) : laws_toPattern.fv a0_0 a0_1 a0_2 a0_3 l0_4 = (laws_toLattice.f a0_1 a0_2 a0_3).bind fun bt192 => ((laws_toInt64S.fv l0_4).bind fun t195 => (some (a0_0, bt192.1, bt192.2.1, bt192.2.2, t195))) := by
  refine lim_now (fun k => rfl) (f := fun k => (laws_toLattice.f a0_1 a0_2 a0_3).bind fun bt192 => ((laws_toInt64S.f k l0_4).bind fun t195 => (some (a0_0, bt192.1, bt192.2.1, bt192.2.2, t195)))) ?_
  repeat' first
    | (with_reducible exact laws_toInt64S.f_lim _)
    | exact Lim.const _
    | refine Lim.ite ?_ ?_
    | refine Lim.bind ?_ (fun _ => ?_)

open Go.Proofs.YtomgliinndfliaaW.PrintWords
/-! ### spec_IsPattern -/
theorem spec_IsPattern.f_mono (a0_0 : Int) (a0_1 : Int) (a0_2 : Int) (a0_3 : Int) (l0_4 : List Int) : Mono (fun k => spec_IsPattern.f k a0_0 a0_1 a0_2 a0_3 l0_4) := (fun k => spec_IsPattern.mono a0_0 a0_1 a0_2 a0_3 l0_4 k)
noncomputable def spec_IsPattern.fv (a0_0 : Int) (a0_1 : Int) (a0_2 : Int) (a0_3 : Int) (l0_4 : List Int) : Option (Bool) := lim (fun k => spec_IsPattern.f k a0_0 a0_1 a0_2 a0_3 l0_4)
theorem spec_IsPattern.f_lim (a0_0 : Int) (a0_1 : Int) (a0_2 : Int) (a0_3 : Int) (l0_4 : List Int) : Lim (fun k => spec_IsPattern.f k a0_0 a0_1 a0_2 a0_3 l0_4) (spec_IsPattern.fv a0_0 a0_1 a0_2 a0_3 l0_4) := lim_Lim (spec_IsPattern.f_mono a0_0 a0_1 a0_2 a0_3 l0_4)
theorem spec_IsPattern.fv_eq (a0_0 : Int) (a0_1 : Int) (a0_2 : Int) (a0_3 : Int) (l0_4 : List Int) : spec_IsPattern.fv a0_0 a0_1 a0_2 a0_3 l0_4 = (spec_l04Code.f a0_0 a0_1 a0_2 a0_3).bind fun t113 => (if t113 = 0 then (if (l0_4.length : Int) = (wrap64 (a0_1 * a0_3)) then ((spec_l01Within.fv l0_4 64 0 9).bind fun t114 => (some t114)) else (some false)) else (some false)) := by
  refine lim_now (fun k => rfl) (f := fun k => (spec_l04Code.f a0_0 a0_1 a0_2 a0_3).bind fun t113 => (if t113 = 0 then (if (l0_4.length : Int) = (wrap64 (a0_1 * a0_3)) then ((spec_l01Within.f k l0_4 64 0 9).bind fun t114 => (some t114)) else (some false)) else (some false))) ?_
  repeat' first
    | (with_reducible exact spec_l01Within.f_lim _ _ _ _)
    | exact Lim.const _
    | refine Lim.ite ?_ ?_
    | refine Lim.bind ?_ (fun _ => ?_)

open Go.Proofs.YtomgliinndfliaaW.PrintWords
/-! ### laws_heldPattern -/
theorem laws_heldPattern.f_mono (a0_0 : Int) (a0_1 : Int) (a0_2 : Int) (a0_3 : Int) (l0_4 : List Int) (a1 : Int) : Mono (fun k => laws_heldPattern.f k a0_0 a0_1 a0_2 a0_3 l0_4 a1) := (fun k => laws_heldPattern.mono a0_0 a0_1 a0_2 a0_3 l0_4 a1 k)
noncomputable def laws_heldPattern.fv (a0_0 : Int) (a0_1 : Int) (a0_2 : Int) (a0_3 : Int) (l0_4 : List Int) (a1 : Int) : Option (Int) := lim (fun k => laws_heldPattern.f k a0_0 a0_1 a0_2 a0_3 l0_4 a1)
theorem laws_heldPattern.f_lim (a0_0 : Int) (a0_1 : Int) (a0_2 : Int) (a0_3 : Int) (l0_4 : List Int) (a1 : Int) : Lim (fun k => laws_heldPattern.f k a0_0 a0_1 a0_2 a0_3 l0_4 a1) (laws_heldPattern.fv a0_0 a0_1 a0_2 a0_3 l0_4 a1) := lim_Lim (laws_heldPattern.f_mono a0_0 a0_1 a0_2 a0_3 l0_4 a1)
theorem laws_heldPattern.fv_eq (a0_0 : Int) (a0_1 : Int) (a0_2 : Int) (a0_3 : Int) (l0_4 : List Int) (a1 : Int) : laws_heldPattern.fv a0_0 a0_1 a0_2 a0_3 l0_4 a1 = (laws_heldInt64S.fv l0_4 a1).bind fun t279 => (if t279 < 0 then (some (-1)) else (some t279)) := by
  refine lim_now (fun k => rfl) (f := fun k => (laws_heldInt64S.f k l0_4 a1).bind fun t279 => (if t279 < 0 then (some (-1)) else (some t279))) ?_
  repeat' first
    | (with_reducible exact laws_heldInt64S.f_lim _ _)
    | exact Lim.const _
    | refine Lim.ite ?_ ?_
    | refine Lim.bind ?_ (fun _ => ?_)

open Go.Proofs.YtomgliinndfliaaW.PrintWords
/-! ### laws_markPattern -/
theorem laws_markPattern.f_mono (a0_0 : Int) (a0_1 : Int) (a0_2 : Int) (a0_3 : Int) (l0_4 : List Int) (a1 : Int) : Mono (fun k => laws_markPattern.f k a0_0 a0_1 a0_2 a0_3 l0_4 a1) := (fun k => laws_markPattern.mono a0_0 a0_1 a0_2 a0_3 l0_4 a1 k)
noncomputable def laws_markPattern.fv (a0_0 : Int) (a0_1 : Int) (a0_2 : Int) (a0_3 : Int) (l0_4 : List Int) (a1 : Int) : Option (Int × List Int) := lim (fun k => laws_markPattern.f k a0_0 a0_1 a0_2 a0_3 l0_4 a1)
theorem laws_markPattern.f_lim (a0_0 : Int) (a0_1 : Int) (a0_2 : Int) (a0_3 : Int) (l0_4 : List Int) (a1 : Int) : Lim (fun k => laws_markPattern.f k a0_0 a0_1 a0_2 a0_3 l0_4 a1) (laws_markPattern.fv a0_0 a0_1 a0_2 a0_3 l0_4 a1) := lim_Lim (laws_markPattern.f_mono a0_0 a0_1 a0_2 a0_3 l0_4 a1)
theorem laws_markPattern.fv_eq (a0_0 : Int) (a0_1 : Int) (a0_2 : Int) (a0_3 : Int) (l0_4 : List Int) (a1 : Int) : laws_markPattern.fv a0_0 a0_1 a0_2 a0_3 l0_4 a1 = (laws_markInt64S.fv l0_4 a1).bind fun bt275 => (some (bt275.1, bt275.2)) := by
  refine lim_now (fun k => rfl) (f := fun k => (laws_markInt64S.f k l0_4 a1).bind fun bt275 => (some (bt275.1, bt275.2))) ?_
  repeat' first
    | (with_reducible exact laws_markInt64S.f_lim _ _)
    | exact Lim.const _
    | refine Lim.ite ?_ ?_
    | refine Lim.bind ?_ (fun _ => ?_)

open Go.Proofs.YtomgliinndfliaaW.PrintWords
/-! ### impl_Lattice_cells -/
theorem impl_Lattice_cells.l0_mono (x3 : List (S38)) (x8 : Int) (x9 : Int) (x211000 : Int) (x211001 : Int) (x211002 : Int) : Mono (fun k => impl_Lattice_cells.l0 k x3 x8 x9 x211000 x211001 x211002) := (fun k => (impl_Lattice_cells.mono_l k).1 x3 x8 x9 x211000 x211001 x211002)
noncomputable def impl_Lattice_cells.l0v (x3 : List (S38)) (x8 : Int) (x9 : Int) (x211000 : Int) (x211001 : Int) (x211002 : Int) : Option ((List (S38))) := lim (fun k => impl_Lattice_cells.l0 k x3 x8 x9 x211000 x211001 x211002)
theorem impl_Lattice_cells.l0_lim (x3 : List (S38)) (x8 : Int) (x9 : Int) (x211000 : Int) (x211001 : Int) (x211002 : Int) : Lim (fun k => impl_Lattice_cells.l0 k x3 x8 x9 x211000 x211001 x211002) (impl_Lattice_cells.l0v x3 x8 x9 x211000 x211001 x211002) := lim_Lim (impl_Lattice_cells.l0_mono x3 x8 x9 x211000 x211001 x211002)
theorem impl_Lattice_cells.l1_mono (x3 : List (S38)) (x4 : Int) (x8 : Int) (x9 : Int) (x13 : Int) (x14 : Int) (x211000 : Int) (x211001 : Int) (x211002 : Int) : Mono (fun k => impl_Lattice_cells.l1 k x3 x4 x8 x9 x13 x14 x211000 x211001 x211002) := (fun k => (impl_Lattice_cells.mono_l k).2 x3 x4 x8 x9 x13 x14 x211000 x211001 x211002)
noncomputable def impl_Lattice_cells.l1v (x3 : List (S38)) (x4 : Int) (x8 : Int) (x9 : Int) (x13 : Int) (x14 : Int) (x211000 : Int) (x211001 : Int) (x211002 : Int) : Option ((List (S38))) := lim (fun k => impl_Lattice_cells.l1 k x3 x4 x8 x9 x13 x14 x211000 x211001 x211002)
theorem impl_Lattice_cells.l1_lim (x3 : List (S38)) (x4 : Int) (x8 : Int) (x9 : Int) (x13 : Int) (x14 : Int) (x211000 : Int) (x211001 : Int) (x211002 : Int) : Lim (fun k => impl_Lattice_cells.l1 k x3 x4 x8 x9 x13 x14 x211000 x211001 x211002) (impl_Lattice_cells.l1v x3 x4 x8 x9 x13 x14 x211000 x211001 x211002) := lim_Lim (impl_Lattice_cells.l1_mono x3 x4 x8 x9 x13 x14 x211000 x211001 x211002)
theorem impl_Lattice_cells.f_mono (a0_0 : Int) (a0_1 : Int) (a0_2 : Int) : Mono (fun k => impl_Lattice_cells.f k a0_0 a0_1 a0_2) := (fun k => impl_Lattice_cells.mono a0_0 a0_1 a0_2 k)
noncomputable def impl_Lattice_cells.fv (a0_0 : Int) (a0_1 : Int) (a0_2 : Int) : Option ((List (S38))) := lim (fun k => impl_Lattice_cells.f k a0_0 a0_1 a0_2)
theorem impl_Lattice_cells.f_lim (a0_0 : Int) (a0_1 : Int) (a0_2 : Int) : Lim (fun k => impl_Lattice_cells.f k a0_0 a0_1 a0_2) (impl_Lattice_cells.fv a0_0 a0_1 a0_2) := lim_Lim (impl_Lattice_cells.f_mono a0_0 a0_1 a0_2)
theorem impl_Lattice_cells.l0v_eq (x3 : List (S38)) (x8 : Int) (x9 : Int) (x211000 : Int) (x211001 : Int) (x211002 : Int) : impl_Lattice_cells.l0v x3 x8 x9 x211000 x211001 x211002 = if x9 < x8 then (impl_Lattice_cells.l1v x3 x9 x8 x9 x211002 0 x211000 x211001 x211002) else (some x3) := by
  refine lim_step (impl_Lattice_cells.l0_mono x3 x8 x9 x211000 x211001 x211002) (fun k => by rw [impl_Lattice_cells.l0]) (f := fun k => if x9 < x8 then (impl_Lattice_cells.l1 k x3 x9 x8 x9 x211002 0 x211000 x211001 x211002) else (some x3)) ?_
  repeat' first
    | (with_reducible exact impl_Lattice_cells.l1_lim _ _ _ _ _ _ _ _ _)
    | exact Lim.const _
    | refine Lim.ite ?_ ?_
    | refine Lim.bind ?_ (fun _ => ?_)
theorem impl_Lattice_cells.l1v_eq (x3 : List (S38)) (x4 : Int) (x8 : Int) (x9 : Int) (x13 : Int) (x14 : Int) (x211000 : Int) (x211001 : Int) (x211002 : Int) : impl_Lattice_cells.l1v x3 x4 x8 x9 x13 x14 x211000 x211001 x211002 = if x14 < x13 then (if x3.length < 8796093022208 then (impl_Lattice_cells.l1v (x3 ++ [(⟨x4, x14⟩ : S38)]) x4 x8 x9 x13 (wrap64 (x14 + 1)) x211000 x211001 x211002) else (none)) else (impl_Lattice_cells.l0v x3 x8 (wrap64 (x9 + 1)) x211000 x211001 x211002) := by
  refine lim_step (impl_Lattice_cells.l1_mono x3 x4 x8 x9 x13 x14 x211000 x211001 x211002) (fun k => by rw [impl_Lattice_cells.l1]) (f := fun k => if x14 < x13 then (if x3.length < 8796093022208 then (impl_Lattice_cells.l1 k (x3 ++ [(⟨x4, x14⟩ : S38)]) x4 x8 x9 x13 (wrap64 (x14 + 1)) x211000 x211001 x211002) else (none)) else (impl_Lattice_cells.l0 k x3 x8 (wrap64 (x9 + 1)) x211000 x211001 x211002)) ?_
  repeat' first
    | (with_reducible exact impl_Lattice_cells.l0_lim _ _ _ _ _ _)
    | (with_reducible exact impl_Lattice_cells.l1_lim _ _ _ _ _ _ _ _ _)
    | exact Lim.const _
    | refine Lim.ite ?_ ?_
    | refine Lim.bind ?_ (fun _ => ?_)
theorem impl_Lattice_cells.fv_eq (a0_0 : Int) (a0_1 : Int) (a0_2 : Int) : impl_Lattice_cells.fv a0_0 a0_1 a0_2 = impl_Lattice_cells.l0v (([] : List (S38))) a0_0 0 a0_0 a0_1 a0_2 := by
  refine lim_now (fun k => rfl) (f := fun k => impl_Lattice_cells.l0 k (([] : List (S38))) a0_0 0 a0_0 a0_1 a0_2) ?_
  repeat' first
    | (with_reducible exact impl_Lattice_cells.l0_lim _ _ _ _ _ _)
    | exact Lim.const _
    | refine Lim.ite ?_ ?_
    | refine Lim.bind ?_ (fun _ => ?_)

open Go.Proofs.YtomgliinndfliaaW.PrintWords
/-! ### spec_l03Cells -/
theorem spec_l03Cells.l0_mono (x3 : List (S38)) (x4 : Int) (x127000 : Int) (x127001 : Int) (x127002 : Int) : Mono (fun k => spec_l03Cells.l0 k x3 x4 x127000 x127001 x127002) := (fun k => (spec_l03Cells.mono_l k).1 x3 x4 x127000 x127001 x127002)
noncomputable def spec_l03Cells.l0v (x3 : List (S38)) (x4 : Int) (x127000 : Int) (x127001 : Int) (x127002 : Int) : Option ((List (S38))) := lim (fun k => spec_l03Cells.l0 k x3 x4 x127000 x127001 x127002)
theorem spec_l03Cells.l0_lim (x3 : List (S38)) (x4 : Int) (x127000 : Int) (x127001 : Int) (x127002 : Int) : Lim (fun k => spec_l03Cells.l0 k x3 x4 x127000 x127001 x127002) (spec_l03Cells.l0v x3 x4 x127000 x127001 x127002) := lim_Lim (spec_l03Cells.l0_mono x3 x4 x127000 x127001 x127002)
theorem spec_l03Cells.l1_mono (x3 : List (S38)) (x4 : Int) (x5 : Int) (x127000 : Int) (x127001 : Int) (x127002 : Int) : Mono (fun k => spec_l03Cells.l1 k x3 x4 x5 x127000 x127001 x127002) := (fun k => (spec_l03Cells.mono_l k).2 x3 x4 x5 x127000 x127001 x127002)
noncomputable def spec_l03Cells.l1v (x3 : List (S38)) (x4 : Int) (x5 : Int) (x127000 : Int) (x127001 : Int) (x127002 : Int) : Option ((List (S38))) := lim (fun k => spec_l03Cells.l1 k x3 x4 x5 x127000 x127001 x127002)
theorem spec_l03Cells.l1_lim (x3 : List (S38)) (x4 : Int) (x5 : Int) (x127000 : Int) (x127001 : Int) (x127002 : Int) : Lim (fun k => spec_l03Cells.l1 k x3 x4 x5 x127000 x127001 x127002) (spec_l03Cells.l1v x3 x4 x5 x127000 x127001 x127002) := lim_Lim (spec_l03Cells.l1_mono x3 x4 x5 x127000 x127001 x127002)
theorem spec_l03Cells.f_mono (a0_0 : Int) (a0_1 : Int) (a0_2 : Int) : Mono (fun k => spec_l03Cells.f k a0_0 a0_1 a0_2) := (fun k => spec_l03Cells.mono a0_0 a0_1 a0_2 k)
noncomputable def spec_l03Cells.fv (a0_0 : Int) (a0_1 : Int) (a0_2 : Int) : Option ((List (S38))) := lim (fun k => spec_l03Cells.f k a0_0 a0_1 a0_2)
theorem spec_l03Cells.f_lim (a0_0 : Int) (a0_1 : Int) (a0_2 : Int) : Lim (fun k => spec_l03Cells.f k a0_0 a0_1 a0_2) (spec_l03Cells.fv a0_0 a0_1 a0_2) := lim_Lim (spec_l03Cells.f_mono a0_0 a0_1 a0_2)
theorem spec_l03Cells.l0v_eq (x3 : List (S38)) (x4 : Int) (x127000 : Int) (x127001 : Int) (x127002 : Int) : spec_l03Cells.l0v x3 x4 x127000 x127001 x127002 = if x4 < x127000 then (spec_l03Cells.l1v x3 x4 0 x127000 x127001 x127002) else (some x3) := by
  refine lim_step (spec_l03Cells.l0_mono x3 x4 x127000 x127001 x127002) (fun k => by rw [spec_l03Cells.l0]) (f := fun k => if x4 < x127000 then (spec_l03Cells.l1 k x3 x4 0 x127000 x127001 x127002) else (some x3)) ?_
  repeat' first
    | (with_reducible exact spec_l03Cells.l1_lim _ _ _ _ _ _)
    | exact Lim.const _
    | refine Lim.ite ?_ ?_
    | refine Lim.bind ?_ (fun _ => ?_)
theorem spec_l03Cells.l1v_eq (x3 : List (S38)) (x4 : Int) (x5 : Int) (x127000 : Int) (x127001 : Int) (x127002 : Int) : spec_l03Cells.l1v x3 x4 x5 x127000 x127001 x127002 = if x5 < x127002 then (if x3.length < 8796093022208 then (spec_l03Cells.l1v (x3 ++ [(⟨x4, x5⟩ : S38)]) x4 (wrap64 (x5 + 1)) x127000 x127001 x127002) else (none)) else (spec_l03Cells.l0v x3 (wrap64 (x4 + 1)) x127000 x127001 x127002) := by
  refine lim_step (spec_l03Cells.l1_mono x3 x4 x5 x127000 x127001 x127002) (fun k => by rw [spec_l03Cells.l1]) (f := fun k => if x5 < x127002 then (if x3.length < 8796093022208 then (spec_l03Cells.l1 k (x3 ++ [(⟨x4, x5⟩ : S38)]) x4 (wrap64 (x5 + 1)) x127000 x127001 x127002) else (none)) else (spec_l03Cells.l0 k x3 (wrap64 (x4 + 1)) x127000 x127001 x127002)) ?_
  repeat' first
    | (with_reducible exact spec_l03Cells.l0_lim _ _ _ _ _)
    | (with_reducible exact spec_l03Cells.l1_lim _ _ _ _ _ _)
    | exact Lim.const _
    | refine Lim.ite ?_ ?_
    | refine Lim.bind ?_ (fun _ => ?_)
theorem spec_l03Cells.fv_eq (a0_0 : Int) (a0_1 : Int) (a0_2 : Int) : spec_l03Cells.fv a0_0 a0_1 a0_2 = spec_l03Cells.l0v (([] : List (S38))) 0 a0_0 a0_1 a0_2 := by
  refine lim_now (fun k => rfl) (f := fun k => spec_l03Cells.l0 k (([] : List (S38))) 0 a0_0 a0_1 a0_2) ?_
  repeat' first
    | (with_reducible exact spec_l03Cells.l0_lim _ _ _ _ _)
    | exact Lim.const _
    | refine Lim.ite ?_ ?_
    | refine Lim.bind ?_ (fun _ => ?_)

open Go.Proofs.YtomgliinndfliaaW.PrintWords
/-! ### impl_SpreadMask -/
theorem impl_SpreadMask.l0_mono (x26 : List (S38)) (x27 : Int) (x28 : Int) (x246000 : Int) (x246001 : Int) (x246002 : Int) (x246003 : Int) (x246004 : List Int) (x250000 : Int) (x250001 : Int) (x250002 : Int) (x250003 : Int) (x250004 : List Int) : Mono (fun k => impl_SpreadMask.l0 k x26 x27 x28 x246000 x246001 x246002 x246003 x246004 x250000 x250001 x250002 x250003 x250004) := (fun k => (impl_SpreadMask.mono_l k).1 x26 x27 x28 x246000 x246001 x246002 x246003 x246004 x250000 x250001 x250002 x250003 x250004)
noncomputable def impl_SpreadMask.l0v (x26 : List (S38)) (x27 : Int) (x28 : Int) (x246000 : Int) (x246001 : Int) (x246002 : Int) (x246003 : Int) (x246004 : List Int) (x250000 : Int) (x250001 : Int) (x250002 : Int) (x250003 : Int) (x250004 : List Int) : Option (Int × Int × Int × Int × List Int × Int) := lim (fun k => impl_SpreadMask.l0 k x26 x27 x28 x246000 x246001 x246002 x246003 x246004 x250000 x250001 x250002 x250003 x250004)
theorem impl_SpreadMask.l0_lim (x26 : List (S38)) (x27 : Int) (x28 : Int) (x246000 : Int) (x246001 : Int) (x246002 : Int) (x246003 : Int) (x246004 : List Int) (x250000 : Int) (x250001 : Int) (x250002 : Int) (x250003 : Int) (x250004 : List Int) : Lim (fun k => impl_SpreadMask.l0 k x26 x27 x28 x246000 x246001 x246002 x246003 x246004 x250000 x250001 x250002 x250003 x250004) (impl_SpreadMask.l0v x26 x27 x28 x246000 x246001 x246002 x246003 x246004 x250000 x250001 x250002 x250003 x250004) := lim_Lim (impl_SpreadMask.l0_mono x26 x27 x28 x246000 x246001 x246002 x246003 x246004 x250000 x250001 x250002 x250003 x250004)
theorem impl_SpreadMask.l1_mono (x7 : Int) (x26 : List (S38)) (x27 : Int) (x28 : Int) (x39 : List (S38)) (x40 : Int) (x41 : Int) (x246000 : Int) (x246001 : Int) (x246002 : Int) (x246003 : Int) (x246004 : List Int) (x250000 : Int) (x250001 : Int) (x250002 : Int) (x250003 : Int) (x250004 : List Int) : Mono (fun k => impl_SpreadMask.l1 k x7 x26 x27 x28 x39 x40 x41 x246000 x246001 x246002 x246003 x246004 x250000 x250001 x250002 x250003 x250004) := (fun k => (impl_SpreadMask.mono_l k).2 x7 x26 x27 x28 x39 x40 x41 x246000 x246001 x246002 x246003 x246004 x250000 x250001 x250002 x250003 x250004)
noncomputable def impl_SpreadMask.l1v (x7 : Int) (x26 : List (S38)) (x27 : Int) (x28 : Int) (x39 : List (S38)) (x40 : Int) (x41 : Int) (x246000 : Int) (x246001 : Int) (x246002 : Int) (x246003 : Int) (x246004 : List Int) (x250000 : Int) (x250001 : Int) (x250002 : Int) (x250003 : Int) (x250004 : List Int) : Option (Int × Int × Int × Int × List Int × Int) := lim (fun k => impl_SpreadMask.l1 k x7 x26 x27 x28 x39 x40 x41 x246000 x246001 x246002 x246003 x246004 x250000 x250001 x250002 x250003 x250004)
theorem impl_SpreadMask.l1_lim (x7 : Int) (x26 : List (S38)) (x27 : Int) (x28 : Int) (x39 : List (S38)) (x40 : Int) (x41 : Int) (x246000 : Int) (x246001 : Int) (x246002 : Int) (x246003 : Int) (x246004 : List Int) (x250000 : Int) (x250001 : Int) (x250002 : Int) (x250003 : Int) (x250004 : List Int) : Lim (fun k => impl_SpreadMask.l1 k x7 x26 x27 x28 x39 x40 x41 x246000 x246001 x246002 x246003 x246004 x250000 x250001 x250002 x250003 x250004) (impl_SpreadMask.l1v x7 x26 x27 x28 x39 x40 x41 x246000 x246001 x246002 x246003 x246004 x250000 x250001 x250002 x250003 x250004) := lim_Lim (impl_SpreadMask.l1_mono x7 x26 x27 x28 x39 x40 x41 x246000 x246001 x246002 x246003 x246004 x250000 x250001 x250002 x250003 x250004)
theorem impl_SpreadMask.f_mono (a0_0 : Int) (a0_1 : Int) (a0_2 : Int) (a0_3 : Int) (l0_4 : List Int) : Mono (fun k => impl_SpreadMask.f k a0_0 a0_1 a0_2 a0_3 l0_4) := (fun k => impl_SpreadMask.mono a0_0 a0_1 a0_2 a0_3 l0_4 k)
noncomputable def impl_SpreadMask.fv (a0_0 : Int) (a0_1 : Int) (a0_2 : Int) (a0_3 : Int) (l0_4 : List Int) : Option (Int × Int × Int × Int × List Int × Int) := lim (fun k => impl_SpreadMask.f k a0_0 a0_1 a0_2 a0_3 l0_4)
theorem impl_SpreadMask.f_lim (a0_0 : Int) (a0_1 : Int) (a0_2 : Int) (a0_3 : Int) (l0_4 : List Int) : Lim (fun k => impl_SpreadMask.f k a0_0 a0_1 a0_2 a0_3 l0_4) (impl_SpreadMask.fv a0_0 a0_1 a0_2 a0_3 l0_4) := lim_Lim (impl_SpreadMask.f_mono a0_0 a0_1 a0_2 a0_3 l0_4)
theorem impl_SpreadMask.l0v_eq (x26 : List (S38)) (x27 : Int) (x28 : Int) (x246000 : Int) (x246001 : Int) (x246002 : Int) (x246003 : Int) (x246004 : List Int) (x250000 : Int) (x250001 : Int) (x250002 : Int) (x250003 : Int) (x250004 : List Int) : impl_SpreadMask.l0v x26 x27 x28 x246000 x246001 x246002 x246003 x246004 x250000 x250001 x250002 x250003 x250004 = if x28 < x27 then (if 0 ≤ x28 then (if x28 < (x26.length : Int) then (if x28 < (x246004.length : Int) then ((impl_neighbours.f ((rd_T38 x26 x28).f0) ((rd_T38 x26 x28).f1)).bind fun t256 => (impl_SpreadMask.l1v (rd x246004 x28) x26 x27 x28 t256 (t256.length : Int) 0 x246000 x246001 x246002 x246003 x246004 x250000 x250001 x250002 x250003 x250004)) else (none)) else (none)) else (none)) else (some (x250000, x250001, x250002, x250003, x250004, 0)) := by
  refine lim_step (impl_SpreadMask.l0_mono x26 x27 x28 x246000 x246001 x246002 x246003 x246004 x250000 x250001 x250002 x250003 x250004) (fun k => by rw [impl_SpreadMask.l0]) (f := fun k => if x28 < x27 then (if 0 ≤ x28 then (if x28 < (x26.length : Int) then (if x28 < (x246004.length : Int) then ((impl_neighbours.f ((rd_T38 x26 x28).f0) ((rd_T38 x26 x28).f1)).bind fun t256 => (impl_SpreadMask.l1 k (rd x246004 x28) x26 x27 x28 t256 (t256.length : Int) 0 x246000 x246001 x246002 x246003 x246004 x250000 x250001 x250002 x250003 x250004)) else (none)) else (none)) else (none)) else (some (x250000, x250001, x250002, x250003, x250004, 0))) ?_
  repeat' first
    | (with_reducible exact impl_SpreadMask.l1_lim _ _ _ _ _ _ _ _ _ _ _ _ _ _ _ _ _)
    | exact Lim.const _
    | refine Lim.ite ?_ ?_
    | refine Lim.bind ?_ (fun _ => ?_)
theorem impl_SpreadMask.l1v_eq (x7 : Int) (x26 : List (S38)) (x27 : Int) (x28 : Int) (x39 : List (S38)) (x40 : Int) (x41 : Int) (x246000 : Int) (x246001 : Int) (x246002 : Int) (x246003 : Int) (x246004 : List Int) (x250000 : Int) (x250001 : Int) (x250002 : Int) (x250003 : Int) (x250004 : List Int) : impl_SpreadMask.l1v x7 x26 x27 x28 x39 x40 x41 x246000 x246001 x246002 x246003 x246004 x250000 x250001 x250002 x250003 x250004 = if x41 < x40 then (if 0 ≤ x41 then (if x41 < (x39.length : Int) then ((impl_Pattern_at.f x246000 x246001 x246002 x246003 x246004 ((rd_T38 x39 x41).f0) ((rd_T38 x39 x41).f1)).bind fun t261 => (impl_SpreadMask.l1v (mx x7 t261) x26 x27 x28 x39 x40 (wrap64 (x41 + 1)) x246000 x246001 x246002 x246003 x246004 x250000 x250001 x250002 x250003 x250004)) else (none)) else (none)) else (if x250004.length < 17592186044416 then (impl_SpreadMask.l0v x26 x27 (wrap64 (x28 + 1)) x246000 x246001 x246002 x246003 x246004 x250000 x250001 x250002 x250003 (x250004 ++ [x7])) else (none)) := by
  refine lim_step (impl_SpreadMask.l1_mono x7 x26 x27 x28 x39 x40 x41 x246000 x246001 x246002 x246003 x246004 x250000 x250001 x250002 x250003 x250004) (fun k => by rw [impl_SpreadMask.l1]) (f := fun k => if x41 < x40 then (if 0 ≤ x41 then (if x41 < (x39.length : Int) then ((impl_Pattern_at.f x246000 x246001 x246002 x246003 x246004 ((rd_T38 x39 x41).f0) ((rd_T38 x39 x41).f1)).bind fun t261 => (impl_SpreadMask.l1 k (mx x7 t261) x26 x27 x28 x39 x40 (wrap64 (x41 + 1)) x246000 x246001 x246002 x246003 x246004 x250000 x250001 x250002 x250003 x250004)) else (none)) else (none)) else (if x250004.length < 17592186044416 then (impl_SpreadMask.l0 k x26 x27 (wrap64 (x28 + 1)) x246000 x246001 x246002 x246003 x246004 x250000 x250001 x250002 x250003 (x250004 ++ [x7])) else (none))) ?_
  repeat' first
    | (with_reducible exact impl_SpreadMask.l0_lim _ _ _ _ _ _ _ _ _ _ _ _ _)
    | (with_reducible exact impl_SpreadMask.l1_lim _ _ _ _ _ _ _ _ _ _ _ _ _ _ _ _ _)
    | exact Lim.const _
    | refine Lim.ite ?_ ?_
    | refine Lim.bind ?_ (fun _ => ?_)
theorem impl_SpreadMask.fv_eq (a0_0 : Int) (a0_1 : Int) (a0_2 : Int) (a0_3 : Int) (l0_4 : List Int) : impl_SpreadMask.fv a0_0 a0_1 a0_2 a0_3 l0_4 = (impl_IsPattern.f a0_0 a0_1 a0_2 a0_3 l0_4).bind fun t247 => (if t247 = true then ((impl_allWithin.f l0_4 0 1).bind fun t248 => (if t248 = true then ((impl_Lattice_cells.fv a0_1 a0_2 a0_3).bind fun t250 => (impl_SpreadMask.l0v t250 (t250.length : Int) 0 a0_0 a0_1 a0_2 a0_3 l0_4 a0_0 a0_1 a0_2 a0_3 ([] : List Int))) else (some (0, 0, 0, 0, ([] : List Int), 2)))) else (some (0, 0, 0, 0, ([] : List Int), 1))) := by
  refine lim_now (fun k => rfl) (f := fun k => (impl_IsPattern.f a0_0 a0_1 a0_2 a0_3 l0_4).bind fun t247 => (if t247 = true then ((impl_allWithin.f l0_4 0 1).bind fun t248 => (if t248 = true then ((impl_Lattice_cells.f k a0_1 a0_2 a0_3).bind fun t250 => (impl_SpreadMask.l0 k t250 (t250.length : Int) 0 a0_0 a0_1 a0_2 a0_3 l0_4 a0_0 a0_1 a0_2 a0_3 ([] : List Int))) else (some (0, 0, 0, 0, ([] : List Int), 2)))) else (some (0, 0, 0, 0, ([] : List Int), 1)))) ?_
  repeat' first
    | (with_reducible exact impl_Lattice_cells.f_lim _ _ _)
    | (with_reducible exact impl_SpreadMask.l0_lim _ _ _ _ _ _ _ _ _ _ _ _ _)
    | exact Lim.const _
    | refine Lim.ite ?_ ?_
    | refine Lim.bind ?_ (fun _ => ?_)

open Go.Proofs.YtomgliinndfliaaW.PrintWords
/-! ### spec_l25Code -/
theorem spec_l25Code.f_mono (a0_0 : Int) (a0_1 : Int) (a0_2 : Int) (a0_3 : Int) (l0_4 : List Int) (a1 : Bool) : Mono (fun k => spec_l25Code.f k a0_0 a0_1 a0_2 a0_3 l0_4 a1) := (fun k => spec_l25Code.mono a0_0 a0_1 a0_2 a0_3 l0_4 a1 k)
noncomputable def spec_l25Code.fv (a0_0 : Int) (a0_1 : Int) (a0_2 : Int) (a0_3 : Int) (l0_4 : List Int) (a1 : Bool) : Option (Int) := lim (fun k => spec_l25Code.f k a0_0 a0_1 a0_2 a0_3 l0_4 a1)
theorem spec_l25Code.f_lim (a0_0 : Int) (a0_1 : Int) (a0_2 : Int) (a0_3 : Int) (l0_4 : List Int) (a1 : Bool) : Lim (fun k => spec_l25Code.f k a0_0 a0_1 a0_2 a0_3 l0_4 a1) (spec_l25Code.fv a0_0 a0_1 a0_2 a0_3 l0_4 a1) := lim_Lim (spec_l25Code.f_mono a0_0 a0_1 a0_2 a0_3 l0_4 a1)
theorem spec_l25Code.fv_eq (a0_0 : Int) (a0_1 : Int) (a0_2 : Int) (a0_3 : Int) (l0_4 : List Int) (a1 : Bool) : spec_l25Code.fv a0_0 a0_1 a0_2 a0_3 l0_4 a1 = (spec_IsPattern.fv a0_0 a0_1 a0_2 a0_3 l0_4).bind fun t116 => (if t116 = true then (if a1 = true then (some 0) else (some 2)) else (some 1)) := by
  refine lim_now (fun k => rfl) (f := fun k => (spec_IsPattern.f k a0_0 a0_1 a0_2 a0_3 l0_4).bind fun t116 => (if t116 = true then (if a1 = true then (some 0) else (some 2)) else (some 1))) ?_
  repeat' first
    | (with_reducible exact spec_IsPattern.f_lim _ _ _ _ _)
    | exact Lim.const _
    | refine Lim.ite ?_ ?_
    | refine Lim.bind ?_ (fun _ => ?_)

open Go.Proofs.YtomgliinndfliaaW.PrintWords
/-! ### spec_l25Over -/
theorem spec_l25Over.l0_mono (x2 : Int) (x9 : List (S38)) (x11 : Int) (x146000 : Int) (x146001 : Int) (x146002 : Int) (x146003 : Int) (x146004 : List Int) (x147000 : Int) (x147001 : Int) (x147002 : Int) (x147003 : Int) (x147004 : List Int) (x148000 : Int) (x148001 : Int) (x156000 : Int) (x156001 : Int) (x156002 : Int) (x156003 : Int) (x156004 : List Int) : Mono (fun k => spec_l25Over.l0 k x2 x9 x11 x146000 x146001 x146002 x146003 x146004 x147000 x147001 x147002 x147003 x147004 x148000 x148001 x156000 x156001 x156002 x156003 x156004) := (fun k => (spec_l25Over.mono_l k) x2 x9 x11 x146000 x146001 x146002 x146003 x146004 x147000 x147001 x147002 x147003 x147004 x148000 x148001 x156000 x156001 x156002 x156003 x156004)
noncomputable def spec_l25Over.l0v (x2 : Int) (x9 : List (S38)) (x11 : Int) (x146000 : Int) (x146001 : Int) (x146002 : Int) (x146003 : Int) (x146004 : List Int) (x147000 : Int) (x147001 : Int) (x147002 : Int) (x147003 : Int) (x147004 : List Int) (x148000 : Int) (x148001 : Int) (x156000 : Int) (x156001 : Int) (x156002 : Int) (x156003 : Int) (x156004 : List Int) : Option (Int × Int × Int × Int × List Int) := lim (fun k => spec_l25Over.l0 k x2 x9 x11 x146000 x146001 x146002 x146003 x146004 x147000 x147001 x147002 x147003 x147004 x148000 x148001 x156000 x156001 x156002 x156003 x156004)
theorem spec_l25Over.l0_lim (x2 : Int) (x9 : List (S38)) (x11 : Int) (x146000 : Int) (x146001 : Int) (x146002 : Int) (x146003 : Int) (x146004 : List Int) (x147000 : Int) (x147001 : Int) (x147002 : Int) (x147003 : Int) (x147004 : List Int) (x148000 : Int) (x148001 : Int) (x156000 : Int) (x156001 : Int) (x156002 : Int) (x156003 : Int) (x156004 : List Int) : Lim (fun k => spec_l25Over.l0 k x2 x9 x11 x146000 x146001 x146002 x146003 x146004 x147000 x147001 x147002 x147003 x147004 x148000 x148001 x156000 x156001 x156002 x156003 x156004) (spec_l25Over.l0v x2 x9 x11 x146000 x146001 x146002 x146003 x146004 x147000 x147001 x147002 x147003 x147004 x148000 x148001 x156000 x156001 x156002 x156003 x156004) := lim_Lim (spec_l25Over.l0_mono x2 x9 x11 x146000 x146001 x146002 x146003 x146004 x147000 x147001 x147002 x147003 x147004 x148000 x148001 x156000 x156001 x156002 x156003 x156004)
theorem spec_l25Over.f_mono (a0_0 : Int) (a0_1 : Int) (a0_2 : Int) (a0_3 : Int) (l0_4 : List Int) (a1_0 : Int) (a1_1 : Int) (a1_2 : Int) (a1_3 : Int) (l1_4 : List Int) (a2 : Int) (a3_0 : Int) (a3_1 : Int) : Mono (fun k => spec_l25Over.f k a0_0 a0_1 a0_2 a0_3 l0_4 a1_0 a1_1 a1_2 a1_3 l1_4 a2 a3_0 a3_1) := (fun k => spec_l25Over.mono a0_0 a0_1 a0_2 a0_3 l0_4 a1_0 a1_1 a1_2 a1_3 l1_4 a2 a3_0 a3_1 k)
noncomputable def spec_l25Over.fv (a0_0 : Int) (a0_1 : Int) (a0_2 : Int) (a0_3 : Int) (l0_4 : List Int) (a1_0 : Int) (a1_1 : Int) (a1_2 : Int) (a1_3 : Int) (l1_4 : List Int) (a2 : Int) (a3_0 : Int) (a3_1 : Int) : Option (Int × Int × Int × Int × List Int) := lim (fun k => spec_l25Over.f k a0_0 a0_1 a0_2 a0_3 l0_4 a1_0 a1_1 a1_2 a1_3 l1_4 a2 a3_0 a3_1)
theorem spec_l25Over.f_lim (a0_0 : Int) (a0_1 : Int) (a0_2 : Int) (a0_3 : Int) (l0_4 : List Int) (a1_0 : Int) (a1_1 : Int) (a1_2 : Int) (a1_3 : Int) (l1_4 : List Int) (a2 : Int) (a3_0 : Int) (a3_1 : Int) : Lim (fun k => spec_l25Over.f k a0_0 a0_1 a0_2 a0_3 l0_4 a1_0 a1_1 a1_2 a1_3 l1_4 a2 a3_0 a3_1) (spec_l25Over.fv a0_0 a0_1 a0_2 a0_3 l0_4 a1_0 a1_1 a1_2 a1_3 l1_4 a2 a3_0 a3_1) := lim_Lim (spec_l25Over.f_mono a0_0 a0_1 a0_2 a0_3 l0_4 a1_0 a1_1 a1_2 a1_3 l1_4 a2 a3_0 a3_1)
theorem spec_l25Over.l0v_eq (x2 : Int) (x9 : List (S38)) (x11 : Int) (x146000 : Int) (x146001 : Int) (x146002 : Int) (x146003 : Int) (x146004 : List Int) (x147000 : Int) (x147001 : Int) (x147002 : Int) (x147003 : Int) (x147004 : List Int) (x148000 : Int) (x148001 : Int) (x156000 : Int) (x156001 : Int) (x156002 : Int) (x156003 : Int) (x156004 : List Int) : spec_l25Over.l0v x2 x9 x11 x146000 x146001 x146002 x146003 x146004 x147000 x147001 x147002 x147003 x147004 x148000 x148001 x156000 x156001 x156002 x156003 x156004 = if x11 < (x9.length : Int) then (if 0 ≤ x11 then (if x11 < (x147004.length : Int) then (if (rd x147004 x11) = 1 then ((spec_l01Add.f ((rd_T38 x9 x11).f0) ((rd_T38 x9 x11).f1) x148000 x148001).bind fun bt158 => ((spec_l03Number.f x146001 x146002 x146003 bt158.1 bt158.2).bind fun t160 => (if 0 ≤ t160 then (if t160 < (x156004.length : Int) then (spec_l25Over.l0v x2 x9 (wrap64 (x11 + 1)) x146000 x146001 x146002 x146003 x146004 x147000 x147001 x147002 x147003 x147004 x148000 x148001 x156000 x156001 x156002 x156003 (x156004.set (t160 : Int).toNat x2)) else (none)) else (none)))) else (spec_l25Over.l0v x2 x9 (wrap64 (x11 + 1)) x146000 x146001 x146002 x146003 x146004 x147000 x147001 x147002 x147003 x147004 x148000 x148001 x156000 x156001 x156002 x156003 x156004)) else (none)) else (none)) else (some (x156000, x156001, x156002, x156003, x156004)) := by
  refine lim_step (spec_l25Over.l0_mono x2 x9 x11 x146000 x146001 x146002 x146003 x146004 x147000 x147001 x147002 x147003 x147004 x148000 x148001 x156000 x156001 x156002 x156003 x156004) (fun k => by rw [spec_l25Over.l0]) (f := fun k => if x11 < (x9.length : Int) then (if 0 ≤ x11 then (if x11 < (x147004.length : Int) then (if (rd x147004 x11) = 1 then ((spec_l01Add.f ((rd_T38 x9 x11).f0) ((rd_T38 x9 x11).f1) x148000 x148001).bind fun bt158 => ((spec_l03Number.f x146001 x146002 x146003 bt158.1 bt158.2).bind fun t160 => (if 0 ≤ t160 then (if t160 < (x156004.length : Int) then (spec_l25Over.l0 k x2 x9 (wrap64 (x11 + 1)) x146000 x146001 x146002 x146003 x146004 x147000 x147001 x147002 x147003 x147004 x148000 x148001 x156000 x156001 x156002 x156003 (x156004.set (t160 : Int).toNat x2)) else (none)) else (none)))) else (spec_l25Over.l0 k x2 x9 (wrap64 (x11 + 1)) x146000 x146001 x146002 x146003 x146004 x147000 x147001 x147002 x147003 x147004 x148000 x148001 x156000 x156001 x156002 x156003 x156004)) else (none)) else (none)) else (some (x156000, x156001, x156002, x156003, x156004))) ?_
  repeat' first
    | (with_reducible exact spec_l25Over.l0_lim _ _ _ _ _ _ _ _ _ _ _ _ _ _ _ _ _ _ _ _)
    | exact Lim.const _
    | refine Lim.ite ?_ ?_
    | refine Lim.bind ?_ (fun _ => ?_)
theorem spec_l25Over.fv_eq (a0_0 : Int) (a0_1 : Int) (a0_2 : Int) (a0_3 : Int) (l0_4 : List Int) (a1_0 : Int) (a1_1 : Int) (a1_2 : Int) (a1_3 : Int) (l1_4 : List Int) (a2 : Int) (a3_0 : Int) (a3_1 : Int) : spec_l25Over.fv a0_0 a0_1 a0_2 a0_3 l0_4 a1_0 a1_1 a1_2 a1_3 l1_4 a2 a3_0 a3_1 = (spec_l03Cells.fv a0_1 a0_2 a0_3).bind fun t149 => ((spec_l01Own.f l0_4).bind fun t152 => (spec_l25Over.l0v a2 t149 0 a0_0 a0_1 a0_2 a0_3 l0_4 a1_0 a1_1 a1_2 a1_3 l1_4 a3_0 a3_1 a0_0 a0_1 a0_2 a0_3 t152)) := by
  refine lim_now (fun k => rfl) (f := fun k => (spec_l03Cells.f k a0_1 a0_2 a0_3).bind fun t149 => ((spec_l01Own.f l0_4).bind fun t152 => (spec_l25Over.l0 k a2 t149 0 a0_0 a0_1 a0_2 a0_3 l0_4 a1_0 a1_1 a1_2 a1_3 l1_4 a3_0 a3_1 a0_0 a0_1 a0_2 a0_3 t152))) ?_
  repeat' first
    | (with_reducible exact spec_l03Cells.f_lim _ _ _)
    | (with_reducible exact spec_l25Over.l0_lim _ _ _ _ _ _ _ _ _ _ _ _ _ _ _ _ _ _ _ _)
    | exact Lim.const _
    | refine Lim.ite ?_ ?_
    | refine Lim.bind ?_ (fun _ => ?_)

open Go.Proofs.YtomgliinndfliaaW.PrintWords
/-! ### spec_SpreadMask -/
theorem spec_SpreadMask.l0_mono (x6 : List (S38)) (x7 : Int) (x163000 : Int) (x163001 : Int) (x163002 : Int) (x163003 : Int) (x163004 : List Int) (x167000 : Int) (x167001 : Int) (x167002 : Int) (x167003 : Int) (x167004 : List Int) : Mono (fun k => spec_SpreadMask.l0 k x6 x7 x163000 x163001 x163002 x163003 x163004 x167000 x167001 x167002 x167003 x167004) := (fun k => (spec_SpreadMask.mono_l k) x6 x7 x163000 x163001 x163002 x163003 x163004 x167000 x167001 x167002 x167003 x167004)
noncomputable def spec_SpreadMask.l0v (x6 : List (S38)) (x7 : Int) (x163000 : Int) (x163001 : Int) (x163002 : Int) (x163003 : Int) (x163004 : List Int) (x167000 : Int) (x167001 : Int) (x167002 : Int) (x167003 : Int) (x167004 : List Int) : Option (Int × Int × Int × Int × List Int × Int) := lim (fun k => spec_SpreadMask.l0 k x6 x7 x163000 x163001 x163002 x163003 x163004 x167000 x167001 x167002 x167003 x167004)
theorem spec_SpreadMask.l0_lim (x6 : List (S38)) (x7 : Int) (x163000 : Int) (x163001 : Int) (x163002 : Int) (x163003 : Int) (x163004 : List Int) (x167000 : Int) (x167001 : Int) (x167002 : Int) (x167003 : Int) (x167004 : List Int) : Lim (fun k => spec_SpreadMask.l0 k x6 x7 x163000 x163001 x163002 x163003 x163004 x167000 x167001 x167002 x167003 x167004) (spec_SpreadMask.l0v x6 x7 x163000 x163001 x163002 x163003 x163004 x167000 x167001 x167002 x167003 x167004) := lim_Lim (spec_SpreadMask.l0_mono x6 x7 x163000 x163001 x163002 x163003 x163004 x167000 x167001 x167002 x167003 x167004)
theorem spec_SpreadMask.f_mono (a0_0 : Int) (a0_1 : Int) (a0_2 : Int) (a0_3 : Int) (l0_4 : List Int) : Mono (fun k => spec_SpreadMask.f k a0_0 a0_1 a0_2 a0_3 l0_4) := (fun k => spec_SpreadMask.mono a0_0 a0_1 a0_2 a0_3 l0_4 k)
noncomputable def spec_SpreadMask.fv (a0_0 : Int) (a0_1 : Int) (a0_2 : Int) (a0_3 : Int) (l0_4 : List Int) : Option (Int × Int × Int × Int × List Int × Int) := lim (fun k => spec_SpreadMask.f k a0_0 a0_1 a0_2 a0_3 l0_4)
theorem spec_SpreadMask.f_lim (a0_0 : Int) (a0_1 : Int) (a0_2 : Int) (a0_3 : Int) (l0_4 : List Int) : Lim (fun k => spec_SpreadMask.f k a0_0 a0_1 a0_2 a0_3 l0_4) (spec_SpreadMask.fv a0_0 a0_1 a0_2 a0_3 l0_4) := lim_Lim (spec_SpreadMask.f_mono a0_0 a0_1 a0_2 a0_3 l0_4)
theorem spec_SpreadMask.l0v_eq (x6 : List (S38)) (x7 : Int) (x163000 : Int) (x163001 : Int) (x163002 : Int) (x163003 : Int) (x163004 : List Int) (x167000 : Int) (x167001 : Int) (x167002 : Int) (x167003 : Int) (x167004 : List Int) : spec_SpreadMask.l0v x6 x7 x163000 x163001 x163002 x163003 x163004 x167000 x167001 x167002 x167003 x167004 = if x7 < 4 then (if 0 ≤ x7 then (if x7 < (x6.length : Int) then ((spec_l25Over.fv x167000 x167001 x167002 x167003 x167004 x163000 x163001 x163002 x163003 x163004 1 ((rd_T38 x6 x7).f0) ((rd_T38 x6 x7).f1)).bind fun bt171 => (spec_SpreadMask.l0v x6 (wrap64 (x7 + 1)) x163000 x163001 x163002 x163003 x163004 bt171.1 bt171.2.1 bt171.2.2.1 bt171.2.2.2.1 bt171.2.2.2.2)) else (none)) else (none)) else ((spec_l01Own.f x167004).bind fun t178 => (some (x167000, x167001, x167002, x167003, t178, 0))) := by
  refine lim_step (spec_SpreadMask.l0_mono x6 x7 x163000 x163001 x163002 x163003 x163004 x167000 x167001 x167002 x167003 x167004) (fun k => by rw [spec_SpreadMask.l0]) (f := fun k => if x7 < 4 then (if 0 ≤ x7 then (if x7 < (x6.length : Int) then ((spec_l25Over.f k x167000 x167001 x167002 x167003 x167004 x163000 x163001 x163002 x163003 x163004 1 ((rd_T38 x6 x7).f0) ((rd_T38 x6 x7).f1)).bind fun bt171 => (spec_SpreadMask.l0 k x6 (wrap64 (x7 + 1)) x163000 x163001 x163002 x163003 x163004 bt171.1 bt171.2.1 bt171.2.2.1 bt171.2.2.2.1 bt171.2.2.2.2)) else (none)) else (none)) else ((spec_l01Own.f x167004).bind fun t178 => (some (x167000, x167001, x167002, x167003, t178, 0)))) ?_
  repeat' first
    | (with_reducible exact spec_SpreadMask.l0_lim _ _ _ _ _ _ _ _ _ _ _ _)
    | (with_reducible exact spec_l25Over.f_lim _ _ _ _ _ _ _ _ _ _ _ _ _)
    | exact Lim.const _
    | refine Lim.ite ?_ ?_
    | refine Lim.bind ?_ (fun _ => ?_)
theorem spec_SpreadMask.fv_eq (a0_0 : Int) (a0_1 : Int) (a0_2 : Int) (a0_3 : Int) (l0_4 : List Int) : spec_SpreadMask.fv a0_0 a0_1 a0_2 a0_3 l0_4 = (spec_l01Within.fv l0_4 64 0 1).bind fun t164 => ((spec_l25Code.fv a0_0 a0_1 a0_2 a0_3 l0_4 t164).bind fun t165 => (if t165 = 0 then ((spec_l21Steps.f).bind fun t167 => (spec_SpreadMask.l0v t167 0 a0_0 a0_1 a0_2 a0_3 l0_4 a0_0 a0_1 a0_2 a0_3 l0_4)) else (some (0, 0, 0, 0, ([] : List Int), t165)))) := by
  refine lim_now (fun k => rfl) (f := fun k => (spec_l01Within.f k l0_4 64 0 1).bind fun t164 => ((spec_l25Code.f k a0_0 a0_1 a0_2 a0_3 l0_4 t164).bind fun t165 => (if t165 = 0 then ((spec_l21Steps.f).bind fun t167 => (spec_SpreadMask.l0 k t167 0 a0_0 a0_1 a0_2 a0_3 l0_4 a0_0 a0_1 a0_2 a0_3 l0_4)) else (some (0, 0, 0, 0, ([] : List Int), t165))))) ?_
  repeat' first
    | (with_reducible exact spec_SpreadMask.l0_lim _ _ _ _ _ _ _ _ _ _ _ _)
    | (with_reducible exact spec_l01Within.f_lim _ _ _ _)
    | (with_reducible exact spec_l25Code.f_lim _ _ _ _ _ _)
    | exact Lim.const _
    | refine Lim.ite ?_ ?_
    | refine Lim.bind ?_ (fun _ => ?_)

open Go.Proofs.YtomgliinndfliaaW.PrintWords
/-! ### laws_FnExactSpreadMask -/
theorem laws_FnExactSpreadMask.f_mono (a0_0 : Int) (a0_1 : Int) (a0_2 : Int) (a0_3 : Int) (l0_4 : List Int) : Mono (fun k => laws_FnExactSpreadMask.f k a0_0 a0_1 a0_2 a0_3 l0_4) := (fun k => laws_FnExactSpreadMask.mono a0_0 a0_1 a0_2 a0_3 l0_4 k)
noncomputable def laws_FnExactSpreadMask.fv (a0_0 : Int) (a0_1 : Int) (a0_2 : Int) (a0_3 : Int) (l0_4 : List Int) : Option (Bool) := lim (fun k => laws_FnExactSpreadMask.f k a0_0 a0_1 a0_2 a0_3 l0_4)
theorem laws_FnExactSpreadMask.f_lim (a0_0 : Int) (a0_1 : Int) (a0_2 : Int) (a0_3 : Int) (l0_4 : List Int) : Lim (fun k => laws_FnExactSpreadMask.f k a0_0 a0_1 a0_2 a0_3 l0_4) (laws_FnExactSpreadMask.fv a0_0 a0_1 a0_2 a0_3 l0_4) := lim_Lim (laws_FnExactSpreadMask.f_mono a0_0 a0_1 a0_2 a0_3 l0_4)
theorem laws_FnExactSpreadMask.fv_eq (a0_0 : Int) (a0_1 : Int) (a0_2 : Int) (a0_3 : Int) (l0_4 : List Int) : laws_FnExactSpreadMask.fv a0_0 a0_1 a0_2 a0_3 l0_4 = (laws_szPattern.f a0_0 a0_1 a0_2 a0_3 l0_4 1048576).bind fun t281 => (if t281 < 0 then (some true) else ((laws_toPattern.fv a0_0 a0_1 a0_2 a0_3 l0_4).bind fun bt282 => ((spec_SpreadMask.fv bt282.1 bt282.2.1 bt282.2.2.1 bt282.2.2.2.1 bt282.2.2.2.2).bind fun bt289 => ((laws_toPattern.fv a0_0 a0_1 a0_2 a0_3 l0_4).bind fun bt298 => ((impl_SpreadMask.fv bt298.1 bt298.2.1 bt298.2.2.1 bt298.2.2.2.1 bt298.2.2.2.2).bind fun bt306 => ((laws_eqPattern.fv bt306.1 bt306.2.1 bt306.2.2.1 bt306.2.2.2.1 bt306.2.2.2.2.1 bt289.1 bt289.2.1 bt289.2.2.1 bt289.2.2.2.1 bt289.2.2.2.2.1).bind fun t315 => (if t315 = true then (if bt306.2.2.2.2.2 = bt289.2.2.2.2.2 then ((laws_toPattern.fv a0_0 a0_1 a0_2 a0_3 l0_4).bind fun bt316 => ((laws_eqPattern.fv bt298.1 bt298.2.1 bt298.2.2.1 bt298.2.2.2.1 bt298.2.2.2.2 bt316.1 bt316.2.1 bt316.2.2.1 bt316.2.2.2.1 bt316.2.2.2.2).bind fun t323 => (if t323 = true then ((laws_markPattern.fv bt298.1 bt298.2.1 bt298.2.2.1 bt298.2.2.2.1 bt298.2.2.2.2 1).bind fun bt324 => (if bt324.1 < 0 then (none) else ((laws_eqPattern.fv bt306.1 bt306.2.1 bt306.2.2.1 bt306.2.2.2.1 bt306.2.2.2.2.1 bt289.1 bt289.2.1 bt289.2.2.1 bt289.2.2.2.1 bt289.2.2.2.2.1).bind fun t326 => (if t326 = true then ((laws_markPattern.fv bt306.1 bt306.2.1 bt306.2.2.1 bt306.2.2.2.1 bt306.2.2.2.2.1 1).bind fun bt327 => ((laws_heldPattern.fv bt306.1 bt306.2.1 bt306.2.2.1 bt306.2.2.2.1 bt327.2 1).bind fun t329 => (if t329 < 0 then (none) else (if t329 = bt327.1 then ((laws_toPattern.fv a0_0 a0_1 a0_2 a0_3 l0_4).bind fun bt330 => ((impl_SpreadMask.fv bt330.1 bt330.2.1 bt330.2.2.1 bt330.2.2.2.1 bt330.2.2.2.2).bind fun bt337 => ((laws_eqPattern.fv bt337.1 bt337.2.1 bt337.2.2.1 bt337.2.2.2.1 bt337.2.2.2.2.1 bt289.1 bt289.2.1 bt289.2.2.1 bt289.2.2.2.1 bt289.2.2.2.2.1).bind fun t346 => (if t346 = true then (if bt337.2.2.2.2.2 = bt289.2.2.2.2.2 then ((laws_heldPattern.fv bt306.1 bt306.2.1 bt306.2.2.1 bt306.2.2.2.1 bt327.2 1).bind fun t347 => (if t347 < 0 then (none) else (if t347 = bt327.1 then (some true) else (none)))) else (none)) else (none))))) else (none))))) else (none))))) else (none)))) else (none)) else (none)))))))) := by
  refine lim_now (fun k => rfl) (f := fun k => (laws_szPattern.f a0_0 a0_1 a0_2 a0_3 l0_4 1048576).bind fun t281 => (if t281 < 0 then (some true) else ((laws_toPattern.f k a0_0 a0_1 a0_2 a0_3 l0_4).bind fun bt282 => ((spec_SpreadMask.f k bt282.1 bt282.2.1 bt282.2.2.1 bt282.2.2.2.1 bt282.2.2.2.2).bind fun bt289 => ((laws_toPattern.f k a0_0 a0_1 a0_2 a0_3 l0_4).bind fun bt298 => ((impl_SpreadMask.f k bt298.1 bt298.2.1 bt298.2.2.1 bt298.2.2.2.1 bt298.2.2.2.2).bind fun bt306 => ((laws_eqPattern.f k bt306.1 bt306.2.1 bt306.2.2.1 bt306.2.2.2.1 bt306.2.2.2.2.1 bt289.1 bt289.2.1 bt289.2.2.1 bt289.2.2.2.1 bt289.2.2.2.2.1).bind fun t315 => (if t315 = true then (if bt306.2.2.2.2.2 = bt289.2.2.2.2.2 then ((laws_toPattern.f k a0_0 a0_1 a0_2 a0_3 l0_4).bind fun bt316 => ((laws_eqPattern.f k bt298.1 bt298.2.1 bt298.2.2.1 bt298.2.2.2.1 bt298.2.2.2.2 bt316.1 bt316.2.1 bt316.2.2.1 bt316.2.2.2.1 bt316.2.2.2.2).bind fun t323 => (if t323 = true then ((laws_markPattern.f k bt298.1 bt298.2.1 bt298.2.2.1 bt298.2.2.2.1 bt298.2.2.2.2 1).bind fun bt324 => (if bt324.1 < 0 then (none) else ((laws_eqPattern.f k bt306.1 bt306.2.1 bt306.2.2.1 bt306.2.2.2.1 bt306.2.2.2.2.1 bt289.1 bt289.2.1 bt289.2.2.1 bt289.2.2.2.1 bt289.2.2.2.2.1).bind fun t326 => (if t326 = true then ((laws_markPattern.f k bt306.1 bt306.2.1 bt306.2.2.1 bt306.2.2.2.1 bt306.2.2.2.2.1 1).bind fun bt327 => ((laws_heldPattern.f k bt306.1 bt306.2.1 bt306.2.2.1 bt306.2.2.2.1 bt327.2 1).bind fun t329 => (if t329 < 0 then (none) else (if t329 = bt327.1 then ((laws_toPattern.f k a0_0 a0_1 a0_2 a0_3 l0_4).bind fun bt330 => ((impl_SpreadMask.f k bt330.1 bt330.2.1 bt330.2.2.1 bt330.2.2.2.1 bt330.2.2.2.2).bind fun bt337 => ((laws_eqPattern.f k bt337.1 bt337.2.1 bt337.2.2.1 bt337.2.2.2.1 bt337.2.2.2.2.1 bt289.1 bt289.2.1 bt289.2.2.1 bt289.2.2.2.1 bt289.2.2.2.2.1).bind fun t346 => (if t346 = true then (if bt337.2.2.2.2.2 = bt289.2.2.2.2.2 then ((laws_heldPattern.f k bt306.1 bt306.2.1 bt306.2.2.1 bt306.2.2.2.1 bt327.2 1).bind fun t347 => (if t347 < 0 then (none) else (if t347 = bt327.1 then (some true) else (none)))) else (none)) else (none))))) else (none))))) else (none))))) else (none)))) else (none)) else (none))))))))) ?_
  repeat' first
    | (with_reducible exact impl_SpreadMask.f_lim _ _ _ _ _)
    | (with_reducible exact laws_eqPattern.f_lim _ _ _ _ _ _ _ _ _ _)
    | (with_reducible exact laws_heldPattern.f_lim _ _ _ _ _ _)
    | (with_reducible exact laws_markPattern.f_lim _ _ _ _ _ _)
    | (with_reducible exact laws_toPattern.f_lim _ _ _ _ _)
    | (with_reducible exact spec_SpreadMask.f_lim _ _ _ _ _)
    | exact Lim.const _
    | refine Lim.ite ?_ ?_
    | refine Lim.bind ?_ (fun _ => ?_)
end Go.Proofs.Ytomgliinndfliaa.X
