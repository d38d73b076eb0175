/- Part of the proof of the law FnExactDropOf: equations of the plain functions. No condition of its own. -/
import Derived.Test.YtomgliinndfliaaCFnExactDropOfD0
namespace Go.Proofs.Ytomgliinndfliaa.X
open Go.RowKit Go.Proofs.YtomgliinndfliaaW.PrintWords Go.Proofs.YtomgliinndfliaaW.PrintLast Go.Proofs.YtomgliinndfliaaW.PrintMore
attribute [local go_sem] max2_int min2_int max_two min_two max_three min_three max_four min_four   -- for this text's walks alone
set_option linter.unusedVariables false
set_option linter.unusedSimpArgs false

open Go.Proofs.YtomgliinndfliaaW.PrintWords
/-! ### laws_eqInt64S -/
theorem laws_eqInt64S.l0_mono (x0 : List Int) (x1 : List Int) (x5 : Int) : Mono (fun k => laws_eqInt64S.l0 k x0 x1 x5) := (fun k => (laws_eqInt64S.mono_l k) x0 x1 x5)
noncomputable def laws_eqInt64S.l0v (x0 : List Int) (x1 : List Int) (x5 : Int) : Option (Bool) := lim (fun k => laws_eqInt64S.l0 k x0 x1 x5)
theorem laws_eqInt64S.l0_lim (x0 : List Int) (x1 : List Int) (x5 : Int) : Lim (fun k => laws_eqInt64S.l0 k x0 x1 x5) (laws_eqInt64S.l0v x0 x1 x5) := lim_Lim (laws_eqInt64S.l0_mono x0 x1 x5)
theorem laws_eqInt64S.f_mono (l0 : List Int) (l1 : List Int) : Mono (fun k => laws_eqInt64S.f k l0 l1) := (fun k => laws_eqInt64S.mono l0 l1 k)
noncomputable def laws_eqInt64S.fv (l0 : List Int) (l1 : List Int) : Option (Bool) := lim (fun k => laws_eqInt64S.f k l0 l1)
theorem laws_eqInt64S.f_lim (l0 : List Int) (l1 : List Int) : Lim (fun k => laws_eqInt64S.f k l0 l1) (laws_eqInt64S.fv l0 l1) := lim_Lim (laws_eqInt64S.f_mono l0 l1)
theorem laws_eqInt64S.l0v_eq (x0 : List Int) (x1 : List Int) (x5 : Int) : laws_eqInt64S.l0v x0 x1 x5 = if x5 < (x0.length : Int) then (if 0 ≤ x5 then (if x5 < (x1.length : Int) then (if (rd x0 x5) = (rd x1 x5) then (laws_eqInt64S.l0v x0 x1 (wrap64 (x5 + 1))) else (some false)) else (none)) else (none)) else (some true) := by
  refine lim_step (laws_eqInt64S.l0_mono x0 x1 x5) (fun k => by rw [laws_eqInt64S.l0]) (f := fun k => if x5 < (x0.length : Int) then (if 0 ≤ x5 then (if x5 < (x1.length : Int) then (if (rd x0 x5) = (rd x1 x5) then (laws_eqInt64S.l0 k x0 x1 (wrap64 (x5 + 1))) else (some false)) else (none)) else (none)) else (some true)) ?_
  repeat' first
    | (with_reducible exact laws_eqInt64S.l0_lim _ _ _)
    | exact Lim.const _
    | refine Lim.ite ?_ ?_
    | refine Lim.bind ?_ (fun _ => ?_)
theorem laws_eqInt64S.fv_eq (l0 : List Int) (l1 : List Int) : laws_eqInt64S.fv l0 l1 = if (l0.length : Int) = (l1.length : Int) then (laws_eqInt64S.l0v l0 l1 0) else (some false) := by
  refine lim_now (fun k => rfl) (f := fun k => if (l0.length : Int) = (l1.length : Int) then (laws_eqInt64S.l0 k l0 l1 0) else (some false)) ?_
  repeat' first
    | (with_reducible exact laws_eqInt64S.l0_lim _ _ _)
    | exact Lim.const _
    | refine Lim.ite ?_ ?_
    | refine Lim.bind ?_ (fun _ => ?_)

open Go.Proofs.YtomgliinndfliaaW.PrintWords
/-! ### laws_heldInt64S -/
theorem laws_heldInt64S.l0_mono (x0 : List Int) (x1 : Int) (x5 : Int) : Mono (fun k => laws_heldInt64S.l0 k x0 x1 x5) := (fun k => (laws_heldInt64S.mono_l k) x0 x1 x5)
noncomputable def laws_heldInt64S.l0v (x0 : List Int) (x1 : Int) (x5 : Int) : Option (Int) := lim (fun k => laws_heldInt64S.l0 k x0 x1 x5)
theorem laws_heldInt64S.l0_lim (x0 : List Int) (x1 : Int) (x5 : Int) : Lim (fun k => laws_heldInt64S.l0 k x0 x1 x5) (laws_heldInt64S.l0v x0 x1 x5) := lim_Lim (laws_heldInt64S.l0_mono x0 x1 x5)
theorem laws_heldInt64S.f_mono (l0 : List Int) (a1 : Int) : Mono (fun k => laws_heldInt64S.f k l0 a1) := (fun k => laws_heldInt64S.mono l0 a1 k)
noncomputable def laws_heldInt64S.fv (l0 : List Int) (a1 : Int) : Option (Int) := lim (fun k => laws_heldInt64S.f k l0 a1)
theorem laws_heldInt64S.f_lim (l0 : List Int) (a1 : Int) : Lim (fun k => laws_heldInt64S.f k l0 a1) (laws_heldInt64S.fv l0 a1) := lim_Lim (laws_heldInt64S.f_mono l0 a1)
theorem laws_heldInt64S.l0v_eq (x0 : List Int) (x1 : Int) (x5 : Int) : laws_heldInt64S.l0v x0 x1 x5 = if x5 < (x0.length : Int) then (if 0 ≤ x5 then (if (rd x0 x5) = x1 then (laws_heldInt64S.l0v x0 (wrap64 (x1 + 1)) (wrap64 (x5 + 1))) else (some (-1))) else (none)) else (some x1) := by
  refine lim_step (laws_heldInt64S.l0_mono x0 x1 x5) (fun k => by rw [laws_heldInt64S.l0]) (f := fun k => if x5 < (x0.length : Int) then (if 0 ≤ x5 then (if (rd x0 x5) = x1 then (laws_heldInt64S.l0 k x0 (wrap64 (x1 + 1)) (wrap64 (x5 + 1))) else (some (-1))) else (none)) else (some x1)) ?_
  repeat' first
    | (with_reducible exact laws_heldInt64S.l0_lim _ _ _)
    | exact Lim.const _
    | refine Lim.ite ?_ ?_
    | refine Lim.bind ?_ (fun _ => ?_)
theorem laws_heldInt64S.fv_eq (l0 : List Int) (a1 : Int) : laws_heldInt64S.fv l0 a1 = laws_heldInt64S.l0v l0 a1 0 := by
  refine lim_now (fun k => rfl) (f := fun k => laws_heldInt64S.l0 k l0 a1 0) ?_
  repeat' first
    | (with_reducible exact laws_heldInt64S.l0_lim _ _ _)
    | exact Lim.const _
    | refine Lim.ite ?_ ?_
    | refine Lim.bind ?_ (fun _ => ?_)

open Go.Proofs.YtomgliinndfliaaW.PrintWords
/-! ### laws_markInt64S -/
theorem laws_markInt64S.l0_mono (x0 : List Int) (x1 : Int) (x5 : Int) : Mono (fun k => laws_markInt64S.l0 k x0 x1 x5) := (fun k => (laws_markInt64S.mono_l k) x0 x1 x5)
noncomputable def laws_markInt64S.l0v (x0 : List Int) (x1 : Int) (x5 : Int) : Option (Int × List Int) := lim (fun k => laws_markInt64S.l0 k x0 x1 x5)
theorem laws_markInt64S.l0_lim (x0 : List Int) (x1 : Int) (x5 : Int) : Lim (fun k => laws_markInt64S.l0 k x0 x1 x5) (laws_markInt64S.l0v x0 x1 x5) := lim_Lim (laws_markInt64S.l0_mono x0 x1 x5)
theorem laws_markInt64S.f_mono (l0 : List Int) (a1 : Int) : Mono (fun k => laws_markInt64S.f k l0 a1) := (fun k => laws_markInt64S.mono l0 a1 k)
noncomputable def laws_markInt64S.fv (l0 : List Int) (a1 : Int) : Option (Int × List Int) := lim (fun k => laws_markInt64S.f k l0 a1)
theorem laws_markInt64S.f_lim (l0 : List Int) (a1 : Int) : Lim (fun k => laws_markInt64S.f k l0 a1) (laws_markInt64S.fv l0 a1) := lim_Lim (laws_markInt64S.f_mono l0 a1)
theorem laws_markInt64S.l0v_eq (x0 : List Int) (x1 : Int) (x5 : Int) : laws_markInt64S.l0v x0 x1 x5 = if x5 < (x0.length : Int) then (if 0 ≤ x5 then (laws_markInt64S.l0v (x0.set (x5 : Int).toNat x1) (wrap64 (x1 + 1)) (wrap64 (x5 + 1))) else (none)) else (some (x1, x0)) := by
  refine lim_step (laws_markInt64S.l0_mono x0 x1 x5) (fun k => by rw [laws_markInt64S.l0]) (f := fun k => if x5 < (x0.length : Int) then (if 0 ≤ x5 then (laws_markInt64S.l0 k (x0.set (x5 : Int).toNat x1) (wrap64 (x1 + 1)) (wrap64 (x5 + 1))) else (none)) else (some (x1, x0))) ?_
  repeat' first
    | (with_reducible exact laws_markInt64S.l0_lim _ _ _)
    | exact Lim.const _
    | refine Lim.ite ?_ ?_
    | refine Lim.bind ?_ (fun _ => ?_)
theorem laws_markInt64S.fv_eq (l0 : List Int) (a1 : Int) : laws_markInt64S.fv l0 a1 = laws_markInt64S.l0v l0 a1 0 := by
  refine lim_now (fun k => rfl) (f := fun k => laws_markInt64S.l0 k l0 a1 0) ?_
  repeat' first
    | (with_reducible exact laws_markInt64S.l0_lim _ _ _)
    | exact Lim.const _
    | refine Lim.ite ?_ ?_
    | refine Lim.bind ?_ (fun _ => ?_)

open Go.Proofs.YtomgliinndfliaaW.PrintWords
/-! ### laws_toInt64S -/
theorem laws_toInt64S.l0_mono (x0 : List Int) (x3 : List Int) (x4 : Int) : Mono (fun k => laws_toInt64S.l0 k x0 x3 x4) := (fun k => (laws_toInt64S.mono_l k) x0 x3 x4)
noncomputable def laws_toInt64S.l0v (x0 : List Int) (x3 : List Int) (x4 : Int) : Option (List Int) := lim (fun k => laws_toInt64S.l0 k x0 x3 x4)
theorem laws_toInt64S.l0_lim (x0 : List Int) (x3 : List Int) (x4 : Int) : Lim (fun k => laws_toInt64S.l0 k x0 x3 x4) (laws_toInt64S.l0v x0 x3 x4) := lim_Lim (laws_toInt64S.l0_mono x0 x3 x4)
theorem laws_toInt64S.f_mono (l0 : List Int) : Mono (fun k => laws_toInt64S.f k l0) := (fun k => laws_toInt64S.mono l0 k)
noncomputable def laws_toInt64S.fv (l0 : List Int) : Option (List Int) := lim (fun k => laws_toInt64S.f k l0)
theorem laws_toInt64S.f_lim (l0 : List Int) : Lim (fun k => laws_toInt64S.f k l0) (laws_toInt64S.fv l0) := lim_Lim (laws_toInt64S.f_mono l0)
theorem laws_toInt64S.l0v_eq (x0 : List Int) (x3 : List Int) (x4 : Int) : laws_toInt64S.l0v x0 x3 x4 = if x4 < (x0.length : Int) then (if 0 ≤ x4 then (if x4 < (x3.length : Int) then (laws_toInt64S.l0v x0 (x3.set (x4 : Int).toNat (rd x0 x4)) (wrap64 (x4 + 1))) else (none)) else (none)) else (some x3) := by
  refine lim_step (laws_toInt64S.l0_mono x0 x3 x4) (fun k => by rw [laws_toInt64S.l0]) (f := fun k => if x4 < (x0.length : Int) then (if 0 ≤ x4 then (if x4 < (x3.length : Int) then (laws_toInt64S.l0 k x0 (x3.set (x4 : Int).toNat (rd x0 x4)) (wrap64 (x4 + 1))) else (none)) else (none)) else (some x3)) ?_
  repeat' first
    | (with_reducible exact laws_toInt64S.l0_lim _ _ _)
    | exact Lim.const _
    | refine Lim.ite ?_ ?_
    | refine Lim.bind ?_ (fun _ => ?_)
theorem laws_toInt64S.fv_eq (l0 : List Int) : laws_toInt64S.fv l0 = if 0 ≤ (l0.length : Int) then (if ((l0.length : Int) : Int).toNat ≤ 35184372088832 then (laws_toInt64S.l0v l0 (List.replicate ((l0.length : Int) : Int).toNat 0) 0) else (none)) else (none) := by
  refine lim_now (fun k => rfl) (f := fun k => if 0 ≤ (l0.length : Int) then (if ((l0.length : Int) : Int).toNat ≤ 35184372088832 then (laws_toInt64S.l0 k l0 (List.replicate ((l0.length : Int) : Int).toNat 0) 0) else (none)) else (none)) ?_
  repeat' first
    | (with_reducible exact laws_toInt64S.l0_lim _ _ _)
    | exact Lim.const _
    | refine Lim.ite ?_ ?_
    | refine Lim.bind ?_ (fun _ => ?_)

open Go.Proofs.YtomgliinndfliaaW.PrintWords
/-! ### spec_l01Within -/
theorem spec_l01Within.l0_mono (x0 : List Int) (x1 : Int) (x2 : Int) (x3 : Int) (x9 : Int) : Mono (fun k => spec_l01Within.l0 k x0 x1 x2 x3 x9) := (fun k => (spec_l01Within.mono_l k) x0 x1 x2 x3 x9)
noncomputable def spec_l01Within.l0v (x0 : List Int) (x1 : Int) (x2 : Int) (x3 : Int) (x9 : Int) : Option (Bool) := lim (fun k => spec_l01Within.l0 k x0 x1 x2 x3 x9)
theorem spec_l01Within.l0_lim (x0 : List Int) (x1 : Int) (x2 : Int) (x3 : Int) (x9 : Int) : Lim (fun k => spec_l01Within.l0 k x0 x1 x2 x3 x9) (spec_l01Within.l0v x0 x1 x2 x3 x9) := lim_Lim (spec_l01Within.l0_mono x0 x1 x2 x3 x9)
theorem spec_l01Within.f_mono (l0 : List Int) (a1 : Int) (a2 : Int) (a3 : Int) : Mono (fun k => spec_l01Within.f k l0 a1 a2 a3) := (fun k => spec_l01Within.mono l0 a1 a2 a3 k)
noncomputable def spec_l01Within.fv (l0 : List Int) (a1 : Int) (a2 : Int) (a3 : Int) : Option (Bool) := lim (fun k => spec_l01Within.f k l0 a1 a2 a3)
theorem spec_l01Within.f_lim (l0 : List Int) (a1 : Int) (a2 : Int) (a3 : Int) : Lim (fun k => spec_l01Within.f k l0 a1 a2 a3) (spec_l01Within.fv l0 a1 a2 a3) := lim_Lim (spec_l01Within.f_mono l0 a1 a2 a3)
theorem spec_l01Within.l0v_eq (x0 : List Int) (x1 : Int) (x2 : Int) (x3 : Int) (x9 : Int) : spec_l01Within.l0v x0 x1 x2 x3 x9 = if x9 < (x0.length : Int) then (if 0 ≤ x9 then ((spec_l01In.f (rd x0 x9) x2 x3).bind fun t104 => (if t104 = true then (spec_l01Within.l0v x0 x1 x2 x3 (wrap64 (x9 + 1))) else (some false))) else (none)) else (some (decide ((x0.length : Int) ≤ x1))) := by
  refine lim_step (spec_l01Within.l0_mono x0 x1 x2 x3 x9) (fun k => by rw [spec_l01Within.l0]) (f := fun k => if x9 < (x0.length : Int) then (if 0 ≤ x9 then ((spec_l01In.f (rd x0 x9) x2 x3).bind fun t104 => (if t104 = true then (spec_l01Within.l0 k x0 x1 x2 x3 (wrap64 (x9 + 1))) else (some false))) else (none)) else (some (decide ((x0.length : Int) ≤ x1)))) ?_
  repeat' first
    | (with_reducible exact spec_l01Within.l0_lim _ _ _ _ _)
    | exact Lim.const _
    | refine Lim.ite ?_ ?_
    | refine Lim.bind ?_ (fun _ => ?_)
theorem spec_l01Within.fv_eq (l0 : List Int) (a1 : Int) (a2 : Int) (a3 : Int) : spec_l01Within.fv l0 a1 a2 a3 = spec_l01Within.l0v l0 a1 a2 a3 0 := by
  refine lim_now (fun k => rfl) (f := fun k => spec_l01Within.l0 k l0 a1 a2 a3 0) ?_
  repeat' first
    | (with_reducible exact spec_l01Within.l0_lim _ _ _ _ _)
    | exact Lim.const _
    | refine Lim.ite ?_ ?_
    | refine Lim.bind ?_ (fun _ => ?_)

open Go.Proofs.YtomgliinndfliaaW.PrintWords
/-! ### laws_eqPattern -/
theorem laws_eqPattern.f_mono (a0_0 : Int) (a0_1 : Int) (a0_2 : Int) (a0_3 : Int) (l0_4 : List Int) (a1_0 : Int) (a1_1 : Int) (a1_2 : Int) (a1_3 : Int) (l1_4 : List Int) : Mono (fun k => laws_eqPattern.f k a0_0 a0_1 a0_2 a0_3 l0_4 a1_0 a1_1 a1_2 a1_3 l1_4) := (fun k => laws_eqPattern.mono a0_0 a0_1 a0_2 a0_3 l0_4 a1_0 a1_1 a1_2 a1_3 l1_4 k)
noncomputable def laws_eqPattern.fv (a0_0 : Int) (a0_1 : Int) (a0_2 : Int) (a0_3 : Int) (l0_4 : List Int) (a1_0 : Int) (a1_1 : Int) (a1_2 : Int) (a1_3 : Int) (l1_4 : List Int) : Option (Bool) := lim (fun k => laws_eqPattern.f k a0_0 a0_1 a0_2 a0_3 l0_4 a1_0 a1_1 a1_2 a1_3 l1_4)
theorem laws_eqPattern.f_lim (a0_0 : Int) (a0_1 : Int) (a0_2 : Int) (a0_3 : Int) (l0_4 : List Int) (a1_0 : Int) (a1_1 : Int) (a1_2 : Int) (a1_3 : Int) (l1_4 : List Int) : Lim (fun k => laws_eqPattern.f k a0_0 a0_1 a0_2 a0_3 l0_4 a1_0 a1_1 a1_2 a1_3 l1_4) (laws_eqPattern.fv a0_0 a0_1 a0_2 a0_3 l0_4 a1_0 a1_1 a1_2 a1_3 l1_4) := lim_Lim (laws_eqPattern.f_mono a0_0 a0_1 a0_2 a0_3 l0_4 a1_0 a1_1 a1_2 a1_3 l1_4)
theorem laws_eqPattern.fv_eq (a0_0 : Int) (a0_1 : Int) (a0_2 : Int) (a0_3 : Int) (l0_4 : List Int) (a1_0 : Int) (a1_1 : Int) (a1_2 : Int) (a1_3 : Int) (l1_4 : List Int) : laws_eqPattern.fv a0_0 a0_1 a0_2 a0_3 l0_4 a1_0 a1_1 a1_2 a1_3 l1_4 = if a0_0 = a1_0 then ((laws_eqLattice.f a0_1 a0_2 a0_3 a1_1 a1_2 a1_3).bind fun t271 => (if t271 = true then ((laws_eqInt64S.fv l0_4 l1_4).bind fun t272 => (if t272 = true then (some true) else (some false))) else (some false))) else (some false) := by
  refine lim_now (fun k => rfl) (f := fun k => if a0_0 = a1_0 then ((laws_eqLattice.f a0_1 a0_2 a0_3 a1_1 a1_2 a1_3).bind fun t271 => (if t271 = true then ((laws_eqInt64S.f k l0_4 l1_4).bind fun t272 => (if t272 = true then (some true) else (some false))) else (some false))) else (some false)) ?_
  repeat' first
    | (with_reducible exact laws_eqInt64S.f_lim _ _)
    | exact Lim.const _
    | refine Lim.ite ?_ ?_
    | refine Lim.bind ?_ (fun _ => ?_)

open Go.Proofs.YtomgliinndfliaaW.PrintWords
/-! ### laws_toPattern -/
theorem laws_toPattern.f_mono (a0_0 : Int) (a0_1 : Int) (a0_2 : Int) (a0_3 : Int) (l0_4 : List Int) : Mono (fun k => laws_toPattern.f k a0_0 a0_1 a0_2 a0_3 l0_4) := (fun k => laws_toPattern.mono a0_0 a0_1 a0_2 a0_3 l0_4 k)
noncomputable def laws_toPattern.fv (a0_0 : Int) (a0_1 : Int) (a0_2 : Int) (a0_3 : Int) (l0_4 : List Int) : Option (Int × Int × Int × Int × List Int) := lim (fun k => laws_toPattern.f k a0_0 a0_1 a0_2 a0_3 l0_4)
theorem laws_toPattern.f_lim (a0_0 : Int) (a0_1 : Int) (a0_2 : Int) (a0_3 : Int) (l0_4 : List Int) : Lim (fun k => laws_toPattern.f k a0_0 a0_1 a0_2 a0_3 l0_4) (laws_toPattern.fv a0_0 a0_1 a0_2 a0_3 l0_4) := lim_Lim (laws_toPattern.f_mono a0_0 a0_1 a0_2 a0_3 l0_4)
theorem laws_toPattern.fv_eq (a0_0 : Int) (a0_1 : Int) (a0_2 : Int) (a0_3 : Int) (l0_4 : List Int) : laws_toPattern.fv a0_0 a0_1 a0_2 a0_3 l0_4 = (laws_toLattice.f a0_1 a0_2 a0_3).bind fun bt192 => ((laws_toInt64S.fv l0_4).bind fun t195 => (some (a0_0, bt192.1, bt192.2.1, bt192.2.2, t195))) := by
  refine lim_now (fun k => rfl) (f := fun k => (laws_toLattice.f a0_1 a0_2 a0_3).bind fun bt192 => ((laws_toInt64S.f k l0_4).bind fun t195 => (some (a0_0, bt192.1, bt192.2.1, bt192.2.2, t195)))) ?_
  repeat' first
    | (with_reducible exact laws_toInt64S.f_lim _)
    | exact Lim.const _
    | refine Lim.ite ?_ ?_
    | refine Lim.bind ?_ (fun _ => ?_)

open Go.Proofs.YtomgliinndfliaaW.PrintWords
/-! ### spec_IsPattern -/
theorem spec_IsPattern.f_mono (a0_0 : Int) (a0_1 : Int) (a0_2 : Int) (a0_3 : Int) (l0_4 : List Int) : Mono (fun k => spec_IsPattern.f k a0_0 a0_1 a0_2 a0_3 l0_4) := (fun k => spec_IsPattern.mono a0_0 a0_1 a0_2 a0_3 l0_4 k)
noncomputable def spec_IsPattern.fv (a0_0 : Int) (a0_1 : Int) (a0_2 : Int) (a0_3 : Int) (l0_4 : List Int) : Option (Bool) := lim (fun k => spec_IsPattern.f k a0_0 a0_1 a0_2 a0_3 l0_4)
theorem spec_IsPattern.f_lim (a0_0 : Int) (a0_1 : Int) (a0_2 : Int) (a0_3 : Int) (l0_4 : List Int) : Lim (fun k => spec_IsPattern.f k a0_0 a0_1 a0_2 a0_3 l0_4) (spec_IsPattern.fv a0_0 a0_1 a0_2 a0_3 l0_4) := lim_Lim (spec_IsPattern.f_mono a0_0 a0_1 a0_2 a0_3 l0_4)
theorem spec_IsPattern.fv_eq (a0_0 : Int) (a0_1 : Int) (a0_2 : Int) (a0_3 : Int) (l0_4 : List Int) : spec_IsPattern.fv a0_0 a0_1 a0_2 a0_3 l0_4 = (spec_l04Code.f a0_0 a0_1 a0_2 a0_3).bind fun t113 => (if t113 = 0 then (if (l0_4.length : Int) = (wrap64 (a0_1 * a0_3)) then ((spec_l01Within.fv l0_4 64 0 9).bind fun t114 => (some t114)) else (some false)) else (some false)) := by
  refine lim_now (fun k => rfl) (f := fun k => (spec_l04Code.f a0_0 a0_1 a0_2 a0_3).bind fun t113 => (if t113 = 0 then (if (l0_4.length : Int) = (wrap64 (a0_1 * a0_3)) then ((spec_l01Within.f k l0_4 64 0 9).bind fun t114 => (some t114)) else (some false)) else (some false))) ?_
  repeat' first
    | (with_reducible exact spec_l01Within.f_lim _ _ _ _)
    | exact Lim.const _
    | refine Lim.ite ?_ ?_
    | refine Lim.bind ?_ (fun _ => ?_)

open Go.Proofs.YtomgliinndfliaaW.PrintWords
/-! ### laws_heldPattern -/
theorem laws_heldPattern.f_mono (a0_0 : Int) (a0_1 : Int) (a0_2 : Int) (a0_3 : Int) (l0_4 : List Int) (a1 : Int) : Mono (fun k => laws_heldPattern.f k a0_0 a0_1 a0_2 a0_3 l0_4 a1) := (fun k => laws_heldPattern.mono a0_0 a0_1 a0_2 a0_3 l0_4 a1 k)
noncomputable def laws_heldPattern.fv (a0_0 : Int) (a0_1 : Int) (a0_2 : Int) (a0_3 : Int) (l0_4 : List Int) (a1 : Int) : Option (Int) := lim (fun k => laws_heldPattern.f k a0_0 a0_1 a0_2 a0_3 l0_4 a1)
theorem laws_heldPattern.f_lim (a0_0 : Int) (a0_1 : Int) (a0_2 : Int) (a0_3 : Int) (l0_4 : List Int) (a1 : Int) : Lim (fun k => laws_heldPattern.f k a0_0 a0_1 a0_2 a0_3 l0_4 a1) (laws_heldPattern.fv a0_0 a0_1 a0_2 a0_3 l0_4 a1) := lim_Lim (laws_heldPattern.f_mono a0_0 a0_1 a0_2 a0_3 l0_4 a1)
theorem laws_heldPattern.fv_eq (a0_0 : Int) (a0_1 : Int) (a0_2 : Int) (a0_3 : Int) (l0_4 : List Int) (a1 : Int) : laws_heldPattern.fv a0_0 a0_1 a0_2 a0_3 l0_4 a1 = (laws_heldInt64S.fv l0_4 a1).bind fun t279 => (if t279 < 0 then (some (-1)) else (some t279)) := by
  refine lim_now (fun k => rfl) (f := fun k => (laws_heldInt64S.f k l0_4 a1).bind fun t279 => (if t279 < 0 then (some (-1)) else (some t279))) ?_
  repeat' first
    | (with_reducible exact laws_heldInt64S.f_lim _ _)
    | exact Lim.const _
    | refine Lim.ite ?_ ?_
    | refine Lim.bind ?_ (fun _ => ?_)

open Go.Proofs.YtomgliinndfliaaW.PrintWords
/-! ### laws_markPattern -/
theorem laws_markPattern.f_mono (a0_0 : Int) (a0_1 : Int) (a0_2 : Int) (a0_3 : Int) (l0_4 : List Int) (a1 : Int) : Mono (fun k => laws_markPattern.f k a0_0 a0_1 a0_2 a0_3 l0_4 a1) := (fun k => laws_markPattern.mono a0_0 a0_1 a0_2 a0_3 l0_4 a1 k)
noncomputable def laws_markPattern.fv (a0_0 : Int) (a0_1 : Int) (a0_2 : Int) (a0_3 : Int) (l0_4 : List Int) (a1 : Int) : Option (Int × List Int) := lim (fun k => laws_markPattern.f k a0_0 a0_1 a0_2 a0_3 l0_4 a1)
theorem laws_markPattern.f_lim (a0_0 : Int) (a0_1 : Int) (a0_2 : Int) (a0_3 : Int) (l0_4 : List Int) (a1 : Int) : Lim (fun k => laws_markPattern.f k a0_0 a0_1 a0_2 a0_3 l0_4 a1) (laws_markPattern.fv a0_0 a0_1 a0_2 a0_3 l0_4 a1) := lim_Lim (laws_markPattern.f_mono a0_0 a0_1 a0_2 a0_3 l0_4 a1)
theorem laws_markPattern.fv_eq (a0_0 : Int) (a0_1 : Int) (a0_2 : Int) (a0_3 : Int) (l0_4 : List Int) (a1 : Int) : laws_markPattern.fv a0_0 a0_1 a0_2 a0_3 l0_4 a1 = (laws_markInt64S.fv l0_4 a1).bind fun bt275 => (some (bt275.1, bt275.2)) := by
  refine lim_now (fun k => rfl) (f := fun k => (laws_markInt64S.f k l0_4 a1).bind fun bt275 => (some (bt275.1, bt275.2))) ?_
  repeat' first
    | (with_reducible exact laws_markInt64S.f_lim _ _)
    | exact Lim.const _
    | refine Lim.ite ?_ ?_
    | refine Lim.bind ?_ (fun _ => ?_)

open Go.Proofs.YtomgliinndfliaaW.PrintWords
/-! ### impl_Lattice_cells -/
theorem impl_Lattice_cells.l0_mono (x3 : List (S38)) (x8 : Int) (x9 : Int) (x211000 : Int) (x211001 : Int) (x211002 : Int) : Mono (fun k => impl_Lattice_cells.l0 k x3 x8 x9 x211000 x211001 x211002) := (fun k => (impl_Lattice_cells.mono_l k).1 x3 x8 x9 x211000 x211001 x211002)
noncomputable def impl_Lattice_cells.l0v (x3 : List (S38)) (x8 : Int) (x9 : Int) (x211000 : Int) (x211001 : Int) (x211002 : Int) : Option ((List (S38))) := lim (fun k => impl_Lattice_cells.l0 k x3 x8 x9 x211000 x211001 x211002)
theorem impl_Lattice_cells.l0_lim (x3 : List (S38)) (x8 : Int) (x9 : Int) (x211000 : Int) (x211001 : Int) (x211002 : Int) : Lim (fun k => impl_Lattice_cells.l0 k x3 x8 x9 x211000 x211001 x211002) (impl_Lattice_cells.l0v x3 x8 x9 x211000 x211001 x211002) := lim_Lim (impl_Lattice_cells.l0_mono x3 x8 x9 x211000 x211001 x211002)
theorem impl_Lattice_cells.l1_mono (x3 : List (S38)) (x4 : Int) (x8 : Int) (x9 : Int) (x13 : Int) (x14 : Int) (x211000 : Int) (x211001 : Int) (x211002 : Int) : Mono (fun k => impl_Lattice_cells.l1 k x3 x4 x8 x9 x13 x14 x211000 x211001 x211002) := (fun k => (impl_Lattice_cells.mono_l k).2 x3 x4 x8 x9 x13 x14 x211000 x211001 x211002)
noncomputable def impl_Lattice_cells.l1v (x3 : List (S38)) (x4 : Int) (x8 : Int) (x9 : Int) (x13 : Int) (x14 : Int) (x211000 : Int) (x211001 : Int) (x211002 : Int) : Option ((List (S38))) := lim (fun k => impl_Lattice_cells.l1 k x3 x4 x8 x9 x13 x14 x211000 x211001 x211002)
theorem impl_Lattice_cells.l1_lim (x3 : List (S38)) (x4 : Int) (x8 : Int) (x9 : Int) (x13 : Int) (x14 : Int) (x211000 : Int) (x211001 : Int) (x211002 : Int) : Lim (fun k => impl_Lattice_cells.l1 k x3 x4 x8 x9 x13 x14 x211000 x211001 x211002) (impl_Lattice_cells.l1v x3 x4 x8 x9 x13 x14 x211000 x211001 x211002) := lim_Lim (impl_Lattice_cells.l1_mono x3 x4 x8 x9 x13 x14 x211000 x211001 x211002)
theorem impl_Lattice_cells.f_mono (a0_0 : Int) (a0_1 : Int) (a0_2 : Int) : Mono (fun k => impl_Lattice_cells.f k a0_0 a0_1 a0_2) := (fun k => impl_Lattice_cells.mono a0_0 a0_1 a0_2 k)
noncomputable def impl_Lattice_cells.fv (a0_0 : Int) (a0_1 : Int) (a0_2 : Int) : Option ((List (S38))) := lim (fun k => impl_Lattice_cells.f k a0_0 a0_1 a0_2)
theorem impl_Lattice_cells.f_lim (a0_0 : Int) (a0_1 : Int) (a0_2 : Int) : Lim (fun k => impl_Lattice_cells.f k a0_0 a0_1 a0_2) (impl_Lattice_cells.fv a0_0 a0_1 a0_2) := lim_Lim (impl_Lattice_cells.f_mono a0_0 a0_1 a0_2)
theorem impl_Lattice_cells.l0v_eq (x3 : List (S38)) (x8 : Int) (x9 : Int) (x211000 : Int) (x211001 : Int) (x211002 : Int) : impl_Lattice_cells.l0v x3 x8 x9 x211000 x211001 x211002 = if x9 < x8 then (impl_Lattice_cells.l1v x3 x9 x8 x9 x211002 0 x211000 x211001 x211002) else (some x3) := by
  refine lim_step (impl_Lattice_cells.l0_mono x3 x8 x9 x211000 x211001 x211002) (fun k => by rw [impl_Lattice_cells.l0]) (f := fun k => if x9 < x8 then (impl_Lattice_cells.l1 k x3 x9 x8 x9 x211002 0 x211000 x211001 x211002) else (some x3)) ?_
  repeat' first
    | (with_reducible exact impl_Lattice_cells.l1_lim _ _ _ _ _ _ _ _ _)
    | exact Lim.const _
    | refine Lim.ite ?_ ?_
    | refine Lim.bind ?_ (fun _ => ?_)
theorem impl_Lattice_cells.l1v_eq (x3 : List (S38)) (x4 : Int) (x8 : Int) (x9 : Int) (x13 : Int) (x14 : Int) (x211000 : Int) (x211001 : Int) (x211002 : Int) : impl_Lattice_cells.l1v x3 x4 x8 x9 x13 x14 x211000 x211001 x211002 = if x14 < x13 then (if x3.length < 8796093022208 then (impl_Lattice_cells.l1v (x3 ++ [(⟨x4, x14⟩ : S38)]) x4 x8 x9 x13 (wrap64 (x14 + 1)) x211000 x211001 x211002) else (none)) else (impl_Lattice_cells.l0v x3 x8 (wrap64 (x9 + 1)) x211000 x211001 x211002) := by
  refine lim_step (impl_Lattice_cells.l1_mono x3 x4 x8 x9 x13 x14 x211000 x211001 x211002) (fun k => by rw [impl_Lattice_cells.l1]) (f := fun k => if x14 < x13 then (if x3.length < 8796093022208 then (impl_Lattice_cells.l1 k (x3 ++ [(⟨x4, x14⟩ : S38)]) x4 x8 x9 x13 (wrap64 (x14 + 1)) x211000 x211001 x211002) else (none)) else (impl_Lattice_cells.l0 k x3 x8 (wrap64 (x9 + 1)) x211000 x211001 x211002)) ?_
  repeat' first
    | (with_reducible exact impl_Lattice_cells.l0_lim _ _ _ _ _ _)
    | (with_reducible exact impl_Lattice_cells.l1_lim _ _ _ _ _ _ _ _ _)
    | exact Lim.const _
    | refine Lim.ite ?_ ?_
    | refine Lim.bind ?_ (fun _ => ?_)
theorem impl_Lattice_cells.fv_eq (a0_0 : Int) (a0_1 : Int) (a0_2 : Int) : impl_Lattice_cells.fv a0_0 a0_1 a0_2 = impl_Lattice_cells.l0v (([] : List (S38))) a0_0 0 a0_0 a0_1 a0_2 := by
  refine lim_now (fun k => rfl) (f := fun k => impl_Lattice_cells.l0 k (([] : List (S38))) a0_0 0 a0_0 a0_1 a0_2) ?_
  repeat' first
    | (with_reducible exact impl_Lattice_cells.l0_lim _ _ _ _ _ _)
    | exact Lim.const _
    | refine Lim.ite ?_ ?_
    | refine Lim.bind ?_ (fun _ => ?_)

open Go.Proofs.YtomgliinndfliaaW.PrintWords
/-! ### spec_l03Cells -/
theorem spec_l03Cells.l0_mono (x3 : List (S38)) (x4 : Int) (x127000 : Int) (x127001 : Int) (x127002 : Int) : Mono (fun k => spec_l03Cells.l0 k x3 x4 x127000 x127001 x127002) := (fun k => (spec_l03Cells.mono_l k).1 x3 x4 x127000 x127001 x127002)
noncomputable def spec_l03Cells.l0v (x3 : List (S38)) (x4 : Int) (x127000 : Int) (x127001 : Int) (x127002 : Int) : Option ((List (S38))) := lim (fun k => spec_l03Cells.l0 k x3 x4 x127000 x127001 x127002)
theorem spec_l03Cells.l0_lim (x3 : List (S38)) (x4 : Int) (x127000 : Int) (x127001 : Int) (x127002 : Int) : Lim (fun k => spec_l03Cells.l0 k x3 x4 x127000 x127001 x127002) (spec_l03Cells.l0v x3 x4 x127000 x127001 x127002) := lim_Lim (spec_l03Cells.l0_mono x3 x4 x127000 x127001 x127002)
theorem spec_l03Cells.l1_mono (x3 : List (S38)) (x4 : Int) (x5 : Int) (x127000 : Int) (x127001 : Int) (x127002 : Int) : Mono (fun k => spec_l03Cells.l1 k x3 x4 x5 x127000 x127001 x127002) := (fun k => (spec_l03Cells.mono_l k).2 x3 x4 x5 x127000 x127001 x127002)
noncomputable def spec_l03Cells.l1v (x3 : List (S38)) (x4 : Int) (x5 : Int) (x127000 : Int) (x127001 : Int) (x127002 : Int) : Option ((List (S38))) := lim (fun k => spec_l03Cells.l1 k x3 x4 x5 x127000 x127001 x127002)
theorem spec_l03Cells.l1_lim (x3 : List (S38)) (x4 : Int) (x5 : Int) (x127000 : Int) (x127001 : Int) (x127002 : Int) : Lim (fun k => spec_l03Cells.l1 k x3 x4 x5 x127000 x127001 x127002) (spec_l03Cells.l1v x3 x4 x5 x127000 x127001 x127002) := lim_Lim (spec_l03Cells.l1_mono x3 x4 x5 x127000 x127001 x127002)
theorem spec_l03Cells.f_mono (a0_0 : Int) (a0_1 : Int) (a0_2 : Int) : Mono (fun k => spec_l03Cells.f k a0_0 a0_1 a0_2) := (fun k => spec_l03Cells.mono a0_0 a0_1 a0_2 k)
noncomputable def spec_l03Cells.fv (a0_0 : Int) (a0_1 : Int) (a0_2 : Int) : Option ((List (S38))) := lim (fun k => spec_l03Cells.f k a0_0 a0_1 a0_2)
theorem spec_l03Cells.f_lim (a0_0 : Int) (a0_1 : Int) (a0_2 : Int) : Lim (fun k => spec_l03Cells.f k a0_0 a0_1 a0_2) (spec_l03Cells.fv a0_0 a0_1 a0_2) := lim_Lim (spec_l03Cells.f_mono a0_0 a0_1 a0_2)
theorem spec_l03Cells.l0v_eq (x3 : List (S38)) (x4 : Int) (x127000 : Int) (x127001 : Int) (x127002 : Int) : spec_l03Cells.l0v x3 x4 x127000 x127001 x127002 = if x4 < x127000 then (spec_l03Cells.l1v x3 x4 0 x127000 x127001 x127002) else (some x3) := by
  refine lim_step (spec_l03Cells.l0_mono x3 x4 x127000 x127001 x127002) (fun k => by rw [spec_l03Cells.l0]) (f := fun k => if x4 < x127000 then (spec_l03Cells.l1 k x3 x4 0 x127000 x127001 x127002) else (some x3)) ?_
  repeat' first
    | (with_reducible exact spec_l03Cells.l1_lim _ _ _ _ _ _)
    | exact Lim.const _
    | refine Lim.ite ?_ ?_
    | refine Lim.bind ?_ (fun _ => ?_)
theorem spec_l03Cells.l1v_eq (x3 : List (S38)) (x4 : Int) (x5 : Int) (x127000 : Int) (x127001 : Int) (x127002 : Int) : spec_l03Cells.l1v x3 x4 x5 x127000 x127001 x127002 = if x5 < x127002 then (if x3.length < 8796093022208 then (spec_l03Cells.l1v (x3 ++ [(⟨x4, x5⟩ : S38)]) x4 (wrap64 (x5 + 1)) x127000 x127001 x127002) else (none)) else (spec_l03Cells.l0v x3 (wrap64 (x4 + 1)) x127000 x127001 x127002) := by
  refine lim_step (spec_l03Cells.l1_mono x3 x4 x5 x127000 x127001 x127002) (fun k => by rw [spec_l03Cells.l1]) (f := fun k => if x5 < x127002 then (if x3.length < 8796093022208 then (spec_l03Cells.l1 k (x3 ++ [(⟨x4, x5⟩ : S38)]) x4 (wrap64 (x5 + 1)) x127000 x127001 x127002) else (none)) else (spec_l03Cells.l0 k x3 (wrap64 (x4 + 1)) x127000 x127001 x127002)) ?_
  repeat' first
    | (with_reducible exact spec_l03Cells.l0_lim _ _ _ _ _)
    | (with_reducible exact spec_l03Cells.l1_lim _ _ _ _ _ _)
    | exact Lim.const _
    | refine Lim.ite ?_ ?_
    | refine Lim.bind ?_ (fun _ => ?_)
theorem spec_l03Cells.fv_eq (a0_0 : Int) (a0_1 : Int) (a0_2 : Int) : spec_l03Cells.fv a0_0 a0_1 a0_2 = spec_l03Cells.l0v (([] : List (S38))) 0 a0_0 a0_1 a0_2 := by
  refine lim_now (fun k => rfl) (f := fun k => spec_l03Cells.l0 k (([] : List (S38))) 0 a0_0 a0_1 a0_2) ?_
  repeat' first
    | (with_reducible exact spec_l03Cells.l0_lim _ _ _ _ _)
    | exact Lim.const _
    | refine Lim.ite ?_ ?_
    | refine Lim.bind ?_ (fun _ => ?_)

open Go.Proofs.YtomgliinndfliaaW.PrintWords
/-! ### impl_gcd -/
theorem impl_gcd.l0_mono (x0 : Int) (x1 : Int) : Mono (fun k => impl_gcd.l0 k x0 x1) := (fun k => (impl_gcd.mono_l k) x0 x1)
noncomputable def impl_gcd.l0v (x0 : Int) (x1 : Int) : Option (Int) := lim (fun k => impl_gcd.l0 k x0 x1)
theorem impl_gcd.l0_lim (x0 : Int) (x1 : Int) : Lim (fun k => impl_gcd.l0 k x0 x1) (impl_gcd.l0v x0 x1) := lim_Lim (impl_gcd.l0_mono x0 x1)
theorem impl_gcd.f_mono (a0 : Int) (a1 : Int) : Mono (fun k => impl_gcd.f k a0 a1) := (fun k => impl_gcd.mono a0 a1 k)
noncomputable def impl_gcd.fv (a0 : Int) (a1 : Int) : Option (Int) := lim (fun k => impl_gcd.f k a0 a1)
theorem impl_gcd.f_lim (a0 : Int) (a1 : Int) : Lim (fun k => impl_gcd.f k a0 a1) (impl_gcd.fv a0 a1) := lim_Lim (impl_gcd.f_mono a0 a1)
theorem impl_gcd.l0v_eq (x0 : Int) (x1 : Int) : impl_gcd.l0v x0 x1 = if x1 = 0 then (some (mx x0 (wrap64 (-x0)))) else (impl_gcd.l0v x1 (Int.tmod x0 x1)) := by
  refine lim_step (impl_gcd.l0_mono x0 x1) (fun k => by rw [impl_gcd.l0]) (f := fun k => if x1 = 0 then (some (mx x0 (wrap64 (-x0)))) else (impl_gcd.l0 k x1 (Int.tmod x0 x1))) ?_
  repeat' first
    | (with_reducible exact impl_gcd.l0_lim _ _)
    | exact Lim.const _
    | refine Lim.ite ?_ ?_
    | refine Lim.bind ?_ (fun _ => ?_)
theorem impl_gcd.fv_eq (a0 : Int) (a1 : Int) : impl_gcd.fv a0 a1 = impl_gcd.l0v a0 a1 := by
  refine lim_now (fun k => rfl) (f := fun k => impl_gcd.l0 k a0 a1) ?_
  repeat' first
    | (with_reducible exact impl_gcd.l0_lim _ _)
    | exact Lim.const _
    | refine Lim.ite ?_ ?_
    | refine Lim.bind ?_ (fun _ => ?_)

open Go.Proofs.YtomgliinndfliaaW.PrintWords
/-! ### impl_latticeOf -/
theorem impl_latticeOf.l0_mono (x3 : Int) (x9 : List (S38)) (x10 : Int) (x11 : Int) (x453000 : Int) (x453001 : Int) : Mono (fun k => impl_latticeOf.l0 k x3 x9 x10 x11 x453000 x453001) := (fun k => (impl_latticeOf.mono_l k).1 x3 x9 x10 x11 x453000 x453001)
noncomputable def impl_latticeOf.l0v (x3 : Int) (x9 : List (S38)) (x10 : Int) (x11 : Int) (x453000 : Int) (x453001 : Int) : Option (Int × Int × Int) := lim (fun k => impl_latticeOf.l0 k x3 x9 x10 x11 x453000 x453001)
theorem impl_latticeOf.l0_lim (x3 : Int) (x9 : List (S38)) (x10 : Int) (x11 : Int) (x453000 : Int) (x453001 : Int) : Lim (fun k => impl_latticeOf.l0 k x3 x9 x10 x11 x453000 x453001) (impl_latticeOf.l0v x3 x9 x10 x11 x453000 x453001) := lim_Lim (impl_latticeOf.l0_mono x3 x9 x10 x11 x453000 x453001)
theorem impl_latticeOf.l1_mono (x3 : Int) (x9 : List (S38)) (x10 : Int) (x11 : Int) (x453000 : Int) (x453001 : Int) (x455000 : Int) (x455001 : Int) : Mono (fun k => impl_latticeOf.l1 k x3 x9 x10 x11 x453000 x453001 x455000 x455001) := (fun k => (impl_latticeOf.mono_l k).2 x3 x9 x10 x11 x453000 x453001 x455000 x455001)
noncomputable def impl_latticeOf.l1v (x3 : Int) (x9 : List (S38)) (x10 : Int) (x11 : Int) (x453000 : Int) (x453001 : Int) (x455000 : Int) (x455001 : Int) : Option (Int × Int × Int) := lim (fun k => impl_latticeOf.l1 k x3 x9 x10 x11 x453000 x453001 x455000 x455001)
theorem impl_latticeOf.l1_lim (x3 : Int) (x9 : List (S38)) (x10 : Int) (x11 : Int) (x453000 : Int) (x453001 : Int) (x455000 : Int) (x455001 : Int) : Lim (fun k => impl_latticeOf.l1 k x3 x9 x10 x11 x453000 x453001 x455000 x455001) (impl_latticeOf.l1v x3 x9 x10 x11 x453000 x453001 x455000 x455001) := lim_Lim (impl_latticeOf.l1_mono x3 x9 x10 x11 x453000 x453001 x455000 x455001)
theorem impl_latticeOf.f_mono (l0 : List (S38)) : Mono (fun k => impl_latticeOf.f k l0) := (fun k => impl_latticeOf.mono l0 k)
noncomputable def impl_latticeOf.fv (l0 : List (S38)) : Option (Int × Int × Int) := lim (fun k => impl_latticeOf.f k l0)
theorem impl_latticeOf.f_lim (l0 : List (S38)) : Lim (fun k => impl_latticeOf.f k l0) (impl_latticeOf.fv l0) := lim_Lim (impl_latticeOf.f_mono l0)
theorem impl_latticeOf.l0v_eq (x3 : Int) (x9 : List (S38)) (x10 : Int) (x11 : Int) (x453000 : Int) (x453001 : Int) : impl_latticeOf.l0v x3 x9 x10 x11 x453000 x453001 = if x11 < x10 then (if 0 ≤ x11 then (if x11 < (x9.length : Int) then (impl_latticeOf.l1v x3 x9 x10 x11 x453000 x453001 ((rd_T38 x9 x11).f0) ((rd_T38 x9 x11).f1)) else (none)) else (none)) else (if x453001 < 0 then ((impl_Vec_times.f x453000 x453001 (-1)).bind fun bt460 => ((impl_mod.f bt460.1 x3).bind fun t462 => (some (x3, t462, bt460.2)))) else ((impl_mod.f x453000 x3).bind fun t463 => (some (x3, t463, x453001)))) := by
  refine lim_step (impl_latticeOf.l0_mono x3 x9 x10 x11 x453000 x453001) (fun k => by rw [impl_latticeOf.l0]) (f := fun k => if x11 < x10 then (if 0 ≤ x11 then (if x11 < (x9.length : Int) then (impl_latticeOf.l1 k x3 x9 x10 x11 x453000 x453001 ((rd_T38 x9 x11).f0) ((rd_T38 x9 x11).f1)) else (none)) else (none)) else (if x453001 < 0 then ((impl_Vec_times.f x453000 x453001 (-1)).bind fun bt460 => ((impl_mod.f bt460.1 x3).bind fun t462 => (some (x3, t462, bt460.2)))) else ((impl_mod.f x453000 x3).bind fun t463 => (some (x3, t463, x453001))))) ?_
  repeat' first
    | (with_reducible exact impl_latticeOf.l1_lim _ _ _ _ _ _ _ _)
    | exact Lim.const _
    | refine Lim.ite ?_ ?_
    | refine Lim.bind ?_ (fun _ => ?_)
theorem impl_latticeOf.l1v_eq (x3 : Int) (x9 : List (S38)) (x10 : Int) (x11 : Int) (x453000 : Int) (x453001 : Int) (x455000 : Int) (x455001 : Int) : impl_latticeOf.l1v x3 x9 x10 x11 x453000 x453001 x455000 x455001 = if x455001 = 0 then ((impl_gcd.fv x3 x455000).bind fun t455 => (impl_latticeOf.l0v t455 x9 x10 (wrap64 (x11 + 1)) x453000 x453001)) else ((impl_Vec_times.f x455000 x455001 (wrap64 (-(wrap64 (Int.tdiv x453001 x455001))))).bind fun bt456 => ((impl_Vec_add.f x453000 x453001 bt456.1 bt456.2).bind fun bt458 => (impl_latticeOf.l1v x3 x9 x10 x11 x455000 x455001 bt458.1 bt458.2))) := by
  refine lim_step (impl_latticeOf.l1_mono x3 x9 x10 x11 x453000 x453001 x455000 x455001) (fun k => by rw [impl_latticeOf.l1]) (f := fun k => if x455001 = 0 then ((impl_gcd.f k x3 x455000).bind fun t455 => (impl_latticeOf.l0 k t455 x9 x10 (wrap64 (x11 + 1)) x453000 x453001)) else ((impl_Vec_times.f x455000 x455001 (wrap64 (-(wrap64 (Int.tdiv x453001 x455001))))).bind fun bt456 => ((impl_Vec_add.f x453000 x453001 bt456.1 bt456.2).bind fun bt458 => (impl_latticeOf.l1 k x3 x9 x10 x11 x455000 x455001 bt458.1 bt458.2)))) ?_
  repeat' first
    | (with_reducible exact impl_gcd.f_lim _ _)
    | (with_reducible exact impl_latticeOf.l0_lim _ _ _ _ _ _)
    | (with_reducible exact impl_latticeOf.l1_lim _ _ _ _ _ _ _ _)
    | exact Lim.const _
    | refine Lim.ite ?_ ?_
    | refine Lim.bind ?_ (fun _ => ?_)
theorem impl_latticeOf.fv_eq (l0 : List (S38)) : impl_latticeOf.fv l0 = impl_latticeOf.l0v 0 l0 (l0.length : Int) 0 0 0 := by
  refine lim_now (fun k => rfl) (f := fun k => impl_latticeOf.l0 k 0 l0 (l0.length : Int) 0 0 0) ?_
  repeat' first
    | (with_reducible exact impl_latticeOf.l0_lim _ _ _ _ _ _)
    | exact Lim.const _
    | refine Lim.ite ?_ ?_
    | refine Lim.bind ?_ (fun _ => ?_)

open Go.Proofs.YtomgliinndfliaaW.PrintWords
/-! ### spec_l01Divisor -/
theorem spec_l01Divisor.f_mono (a0 : Int) (a1 : Int) : Mono (fun k => spec_l01Divisor.f k a0 a1) := (fun k => (spec_l01Divisor.mono_l k) a0 a1)
noncomputable def spec_l01Divisor.fv (a0 : Int) (a1 : Int) : Option (Int) := lim (fun k => spec_l01Divisor.f k a0 a1)
theorem spec_l01Divisor.f_lim (a0 : Int) (a1 : Int) : Lim (fun k => spec_l01Divisor.f k a0 a1) (spec_l01Divisor.fv a0 a1) := lim_Lim (spec_l01Divisor.f_mono a0 a1)
theorem spec_l01Divisor.fv_eq (a0 : Int) (a1 : Int) : spec_l01Divisor.fv a0 a1 = if a1 = 0 then (some (mx a0 (wrap64 (-a0)))) else ((spec_l01Divisor.fv a1 (Int.tmod a0 a1)).bind fun t357 => (some t357)) := by
  refine lim_step (spec_l01Divisor.f_mono a0 a1) (fun k => by rw [spec_l01Divisor.f]) (f := fun k => if a1 = 0 then (some (mx a0 (wrap64 (-a0)))) else ((spec_l01Divisor.f k a1 (Int.tmod a0 a1)).bind fun t357 => (some t357))) ?_
  repeat' first
    | (with_reducible exact spec_l01Divisor.f_lim _ _)
    | exact Lim.const _
    | refine Lim.ite ?_ ?_
    | refine Lim.bind ?_ (fun _ => ?_)

open Go.Proofs.YtomgliinndfliaaW.PrintWords
/-! ### spec_l03Hermite -/
theorem spec_l03Hermite.l0_mono (x0 : List (S38)) (x4 : Int) (x5 : Int) (x362000 : Int) (x362001 : Int) : Mono (fun k => spec_l03Hermite.l0 k x0 x4 x5 x362000 x362001) := (fun k => (spec_l03Hermite.mono_l k).1 x0 x4 x5 x362000 x362001)
noncomputable def spec_l03Hermite.l0v (x0 : List (S38)) (x4 : Int) (x5 : Int) (x362000 : Int) (x362001 : Int) : Option (Int × Int × Int) := lim (fun k => spec_l03Hermite.l0 k x0 x4 x5 x362000 x362001)
theorem spec_l03Hermite.l0_lim (x0 : List (S38)) (x4 : Int) (x5 : Int) (x362000 : Int) (x362001 : Int) : Lim (fun k => spec_l03Hermite.l0 k x0 x4 x5 x362000 x362001) (spec_l03Hermite.l0v x0 x4 x5 x362000 x362001) := lim_Lim (spec_l03Hermite.l0_mono x0 x4 x5 x362000 x362001)
theorem spec_l03Hermite.l1_mono (x0 : List (S38)) (x4 : Int) (x5 : Int) (x362000 : Int) (x362001 : Int) (x364000 : Int) (x364001 : Int) : Mono (fun k => spec_l03Hermite.l1 k x0 x4 x5 x362000 x362001 x364000 x364001) := (fun k => (spec_l03Hermite.mono_l k).2 x0 x4 x5 x362000 x362001 x364000 x364001)
noncomputable def spec_l03Hermite.l1v (x0 : List (S38)) (x4 : Int) (x5 : Int) (x362000 : Int) (x362001 : Int) (x364000 : Int) (x364001 : Int) : Option (Int × Int × Int) := lim (fun k => spec_l03Hermite.l1 k x0 x4 x5 x362000 x362001 x364000 x364001)
theorem spec_l03Hermite.l1_lim (x0 : List (S38)) (x4 : Int) (x5 : Int) (x362000 : Int) (x362001 : Int) (x364000 : Int) (x364001 : Int) : Lim (fun k => spec_l03Hermite.l1 k x0 x4 x5 x362000 x362001 x364000 x364001) (spec_l03Hermite.l1v x0 x4 x5 x362000 x362001 x364000 x364001) := lim_Lim (spec_l03Hermite.l1_mono x0 x4 x5 x362000 x362001 x364000 x364001)
theorem spec_l03Hermite.f_mono (l0 : List (S38)) : Mono (fun k => spec_l03Hermite.f k l0) := (fun k => spec_l03Hermite.mono l0 k)
noncomputable def spec_l03Hermite.fv (l0 : List (S38)) : Option (Int × Int × Int) := lim (fun k => spec_l03Hermite.f k l0)
theorem spec_l03Hermite.f_lim (l0 : List (S38)) : Lim (fun k => spec_l03Hermite.f k l0) (spec_l03Hermite.fv l0) := lim_Lim (spec_l03Hermite.f_mono l0)
theorem spec_l03Hermite.l0v_eq (x0 : List (S38)) (x4 : Int) (x5 : Int) (x362000 : Int) (x362001 : Int) : spec_l03Hermite.l0v x0 x4 x5 x362000 x362001 = if x5 < (x0.length : Int) then (if 0 ≤ x5 then (spec_l03Hermite.l1v x0 x4 x5 x362000 x362001 ((rd_T38 x0 x5).f0) ((rd_T38 x0 x5).f1)) else (none)) else (if x362001 < 0 then ((spec_l01Scale.f x362000 x362001 (-1)).bind fun bt367 => (if x4 > 0 then ((spec_l01Mod.f bt367.1 x4).bind fun t369 => (some (x4, t369, bt367.2))) else (some (x4, bt367.1, bt367.2)))) else (if x4 > 0 then ((spec_l01Mod.f x362000 x4).bind fun t370 => (some (x4, t370, x362001))) else (some (x4, x362000, x362001)))) := by
  refine lim_step (spec_l03Hermite.l0_mono x0 x4 x5 x362000 x362001) (fun k => by rw [spec_l03Hermite.l0]) (f := fun k => if x5 < (x0.length : Int) then (if 0 ≤ x5 then (spec_l03Hermite.l1 k x0 x4 x5 x362000 x362001 ((rd_T38 x0 x5).f0) ((rd_T38 x0 x5).f1)) else (none)) else (if x362001 < 0 then ((spec_l01Scale.f x362000 x362001 (-1)).bind fun bt367 => (if x4 > 0 then ((spec_l01Mod.f bt367.1 x4).bind fun t369 => (some (x4, t369, bt367.2))) else (some (x4, bt367.1, bt367.2)))) else (if x4 > 0 then ((spec_l01Mod.f x362000 x4).bind fun t370 => (some (x4, t370, x362001))) else (some (x4, x362000, x362001))))) ?_
  repeat' first
    | (with_reducible exact spec_l03Hermite.l1_lim _ _ _ _ _ _ _)
    | exact Lim.const _
    | refine Lim.ite ?_ ?_
    | refine Lim.bind ?_ (fun _ => ?_)
theorem spec_l03Hermite.l1v_eq (x0 : List (S38)) (x4 : Int) (x5 : Int) (x362000 : Int) (x362001 : Int) (x364000 : Int) (x364001 : Int) : spec_l03Hermite.l1v x0 x4 x5 x362000 x362001 x364000 x364001 = if x364001 = 0 then ((spec_l01Divisor.fv x4 x364000).bind fun t365 => (if t365 > 0 then ((spec_l01Mod.f x362000 t365).bind fun t366 => (spec_l03Hermite.l0v x0 t365 (wrap64 (x5 + 1)) t366 x362001)) else (spec_l03Hermite.l0v x0 t365 (wrap64 (x5 + 1)) x362000 x362001))) else (spec_l03Hermite.l1v x0 x4 x5 x364000 x364001 (wrap64 (x362000 - (wrap64 ((wrap64 (Int.tdiv x362001 x364001)) * x364000)))) (wrap64 (x362001 - (wrap64 ((wrap64 (Int.tdiv x362001 x364001)) * x364001))))) := by
  refine lim_step (spec_l03Hermite.l1_mono x0 x4 x5 x362000 x362001 x364000 x364001) (fun k => by rw [spec_l03Hermite.l1]) (f := fun k => if x364001 = 0 then ((spec_l01Divisor.f k x4 x364000).bind fun t365 => (if t365 > 0 then ((spec_l01Mod.f x362000 t365).bind fun t366 => (spec_l03Hermite.l0 k x0 t365 (wrap64 (x5 + 1)) t366 x362001)) else (spec_l03Hermite.l0 k x0 t365 (wrap64 (x5 + 1)) x362000 x362001))) else (spec_l03Hermite.l1 k x0 x4 x5 x364000 x364001 (wrap64 (x362000 - (wrap64 ((wrap64 (Int.tdiv x362001 x364001)) * x364000)))) (wrap64 (x362001 - (wrap64 ((wrap64 (Int.tdiv x362001 x364001)) * x364001)))))) ?_
  repeat' first
    | (with_reducible exact spec_l01Divisor.f_lim _ _)
    | (with_reducible exact spec_l03Hermite.l0_lim _ _ _ _ _)
    | (with_reducible exact spec_l03Hermite.l1_lim _ _ _ _ _ _ _)
    | exact Lim.const _
    | refine Lim.ite ?_ ?_
    | refine Lim.bind ?_ (fun _ => ?_)
theorem spec_l03Hermite.fv_eq (l0 : List (S38)) : spec_l03Hermite.fv l0 = spec_l03Hermite.l0v l0 0 0 0 0 := by
  refine lim_now (fun k => rfl) (f := fun k => spec_l03Hermite.l0 k l0 0 0 0 0) ?_
  repeat' first
    | (with_reducible exact spec_l03Hermite.l0_lim _ _ _ _ _)
    | exact Lim.const _
    | refine Lim.ite ?_ ?_
    | refine Lim.bind ?_ (fun _ => ?_)

open Go.Proofs.YtomgliinndfliaaW.PrintWords
/-! ### impl_Lattice_multipleIn -/
theorem impl_Lattice_multipleIn.l0_mono (x1587000 : Int) (x1587001 : Int) (x1587002 : Int) (x1588000 : Int) (x1588001 : Int) (x1590000 : Int) (x1590001 : Int) : Mono (fun k => impl_Lattice_multipleIn.l0 k x1587000 x1587001 x1587002 x1588000 x1588001 x1590000 x1590001) := (fun k => (impl_Lattice_multipleIn.mono_l k) x1587000 x1587001 x1587002 x1588000 x1588001 x1590000 x1590001)
noncomputable def impl_Lattice_multipleIn.l0v (x1587000 : Int) (x1587001 : Int) (x1587002 : Int) (x1588000 : Int) (x1588001 : Int) (x1590000 : Int) (x1590001 : Int) : Option (Int × Int) := lim (fun k => impl_Lattice_multipleIn.l0 k x1587000 x1587001 x1587002 x1588000 x1588001 x1590000 x1590001)
theorem impl_Lattice_multipleIn.l0_lim (x1587000 : Int) (x1587001 : Int) (x1587002 : Int) (x1588000 : Int) (x1588001 : Int) (x1590000 : Int) (x1590001 : Int) : Lim (fun k => impl_Lattice_multipleIn.l0 k x1587000 x1587001 x1587002 x1588000 x1588001 x1590000 x1590001) (impl_Lattice_multipleIn.l0v x1587000 x1587001 x1587002 x1588000 x1588001 x1590000 x1590001) := lim_Lim (impl_Lattice_multipleIn.l0_mono x1587000 x1587001 x1587002 x1588000 x1588001 x1590000 x1590001)
theorem impl_Lattice_multipleIn.f_mono (a0_0 : Int) (a0_1 : Int) (a0_2 : Int) (a1_0 : Int) (a1_1 : Int) : Mono (fun k => impl_Lattice_multipleIn.f k a0_0 a0_1 a0_2 a1_0 a1_1) := (fun k => impl_Lattice_multipleIn.mono a0_0 a0_1 a0_2 a1_0 a1_1 k)
noncomputable def impl_Lattice_multipleIn.fv (a0_0 : Int) (a0_1 : Int) (a0_2 : Int) (a1_0 : Int) (a1_1 : Int) : Option (Int × Int) := lim (fun k => impl_Lattice_multipleIn.f k a0_0 a0_1 a0_2 a1_0 a1_1)
theorem impl_Lattice_multipleIn.f_lim (a0_0 : Int) (a0_1 : Int) (a0_2 : Int) (a1_0 : Int) (a1_1 : Int) : Lim (fun k => impl_Lattice_multipleIn.f k a0_0 a0_1 a0_2 a1_0 a1_1) (impl_Lattice_multipleIn.fv a0_0 a0_1 a0_2 a1_0 a1_1) := lim_Lim (impl_Lattice_multipleIn.f_mono a0_0 a0_1 a0_2 a1_0 a1_1)
theorem impl_Lattice_multipleIn.l0v_eq (x1587000 : Int) (x1587001 : Int) (x1587002 : Int) (x1588000 : Int) (x1588001 : Int) (x1590000 : Int) (x1590001 : Int) : impl_Lattice_multipleIn.l0v x1587000 x1587001 x1587002 x1588000 x1588001 x1590000 x1590001 = (impl_Lattice_has.f x1587000 x1587001 x1587002 x1590000 x1590001).bind fun t1590 => (if t1590 = true then (some (x1590000, x1590001)) else ((impl_Vec_add.f x1590000 x1590001 x1588000 x1588001).bind fun bt1591 => (impl_Lattice_multipleIn.l0v x1587000 x1587001 x1587002 x1588000 x1588001 bt1591.1 bt1591.2))) := by
  refine lim_step (impl_Lattice_multipleIn.l0_mono x1587000 x1587001 x1587002 x1588000 x1588001 x1590000 x1590001) (fun k => by rw [impl_Lattice_multipleIn.l0]) (f := fun k => (impl_Lattice_has.f x1587000 x1587001 x1587002 x1590000 x1590001).bind fun t1590 => (if t1590 = true then (some (x1590000, x1590001)) else ((impl_Vec_add.f x1590000 x1590001 x1588000 x1588001).bind fun bt1591 => (impl_Lattice_multipleIn.l0 k x1587000 x1587001 x1587002 x1588000 x1588001 bt1591.1 bt1591.2)))) ?_
  repeat' first
    | (with_reducible exact impl_Lattice_multipleIn.l0_lim _ _ _ _ _ _ _)
    | exact Lim.const _
    | refine Lim.ite ?_ ?_
    | refine Lim.bind ?_ (fun _ => ?_)
theorem impl_Lattice_multipleIn.fv_eq (a0_0 : Int) (a0_1 : Int) (a0_2 : Int) (a1_0 : Int) (a1_1 : Int) : impl_Lattice_multipleIn.fv a0_0 a0_1 a0_2 a1_0 a1_1 = impl_Lattice_multipleIn.l0v a0_0 a0_1 a0_2 a1_0 a1_1 a1_0 a1_1 := by
  refine lim_now (fun k => rfl) (f := fun k => impl_Lattice_multipleIn.l0 k a0_0 a0_1 a0_2 a1_0 a1_1 a1_0 a1_1) ?_
  repeat' first
    | (with_reducible exact impl_Lattice_multipleIn.l0_lim _ _ _ _ _ _ _)
    | exact Lim.const _
    | refine Lim.ite ?_ ?_
    | refine Lim.bind ?_ (fun _ => ?_)

open Go.Proofs.YtomgliinndfliaaW.PrintWords
/-! ### impl_Lattice_repeat -/
theorem impl_Lattice_repeat.f_mono (a0_0 : Int) (a0_1 : Int) (a0_2 : Int) : Mono (fun k => impl_Lattice_repeat.f k a0_0 a0_1 a0_2) := (fun k => impl_Lattice_repeat.mono a0_0 a0_1 a0_2 k)
noncomputable def impl_Lattice_repeat.fv (a0_0 : Int) (a0_1 : Int) (a0_2 : Int) : Option (Int) := lim (fun k => impl_Lattice_repeat.f k a0_0 a0_1 a0_2)
theorem impl_Lattice_repeat.f_lim (a0_0 : Int) (a0_1 : Int) (a0_2 : Int) : Lim (fun k => impl_Lattice_repeat.f k a0_0 a0_1 a0_2) (impl_Lattice_repeat.fv a0_0 a0_1 a0_2) := lim_Lim (impl_Lattice_repeat.f_mono a0_0 a0_1 a0_2)
theorem impl_Lattice_repeat.fv_eq (a0_0 : Int) (a0_1 : Int) (a0_2 : Int) : impl_Lattice_repeat.fv a0_0 a0_1 a0_2 = (impl_Lattice_multipleIn.fv a0_0 a0_1 a0_2 0 1).bind fun bt1594 => (some bt1594.2) := by
  refine lim_now (fun k => rfl) (f := fun k => (impl_Lattice_multipleIn.f k a0_0 a0_1 a0_2 0 1).bind fun bt1594 => (some bt1594.2)) ?_
  repeat' first
    | (with_reducible exact impl_Lattice_multipleIn.f_lim _ _ _ _ _)
    | exact Lim.const _
    | refine Lim.ite ?_ ?_
    | refine Lim.bind ?_ (fun _ => ?_)

open Go.Proofs.YtomgliinndfliaaW.PrintWords
/-! ### impl_Lattice_drop -/
theorem impl_Lattice_drop.l0_mono (x1 : Int) (x7 : Int) (x8 : Int) (x1691000 : Int) (x1691001 : Int) (x1691002 : Int) : Mono (fun k => impl_Lattice_drop.l0 k x1 x7 x8 x1691000 x1691001 x1691002) := (fun k => (impl_Lattice_drop.mono_l k) x1 x7 x8 x1691000 x1691001 x1691002)
noncomputable def impl_Lattice_drop.l0v (x1 : Int) (x7 : Int) (x8 : Int) (x1691000 : Int) (x1691001 : Int) (x1691002 : Int) : Option (Int) := lim (fun k => impl_Lattice_drop.l0 k x1 x7 x8 x1691000 x1691001 x1691002)
theorem impl_Lattice_drop.l0_lim (x1 : Int) (x7 : Int) (x8 : Int) (x1691000 : Int) (x1691001 : Int) (x1691002 : Int) : Lim (fun k => impl_Lattice_drop.l0 k x1 x7 x8 x1691000 x1691001 x1691002) (impl_Lattice_drop.l0v x1 x7 x8 x1691000 x1691001 x1691002) := lim_Lim (impl_Lattice_drop.l0_mono x1 x7 x8 x1691000 x1691001 x1691002)
theorem impl_Lattice_drop.f_mono (a0_0 : Int) (a0_1 : Int) (a0_2 : Int) (a1 : Int) : Mono (fun k => impl_Lattice_drop.f k a0_0 a0_1 a0_2 a1) := (fun k => impl_Lattice_drop.mono a0_0 a0_1 a0_2 a1 k)
noncomputable def impl_Lattice_drop.fv (a0_0 : Int) (a0_1 : Int) (a0_2 : Int) (a1 : Int) : Option (Int) := lim (fun k => impl_Lattice_drop.f k a0_0 a0_1 a0_2 a1)
theorem impl_Lattice_drop.f_lim (a0_0 : Int) (a0_1 : Int) (a0_2 : Int) (a1 : Int) : Lim (fun k => impl_Lattice_drop.f k a0_0 a0_1 a0_2 a1) (impl_Lattice_drop.fv a0_0 a0_1 a0_2 a1) := lim_Lim (impl_Lattice_drop.f_mono a0_0 a0_1 a0_2 a1)
theorem impl_Lattice_drop.l0v_eq (x1 : Int) (x7 : Int) (x8 : Int) (x1691000 : Int) (x1691001 : Int) (x1691002 : Int) : impl_Lattice_drop.l0v x1 x7 x8 x1691000 x1691001 x1691002 = if x8 < x7 then ((impl_Lattice_has.f x1691000 x1691001 x1691002 x1 (wrap64 (-x8))).bind fun t1692 => (if t1692 = true then (some x8) else (impl_Lattice_drop.l0v x1 x7 (wrap64 (x8 + 1)) x1691000 x1691001 x1691002))) else (some (-1)) := by
  refine lim_step (impl_Lattice_drop.l0_mono x1 x7 x8 x1691000 x1691001 x1691002) (fun k => by rw [impl_Lattice_drop.l0]) (f := fun k => if x8 < x7 then ((impl_Lattice_has.f x1691000 x1691001 x1691002 x1 (wrap64 (-x8))).bind fun t1692 => (if t1692 = true then (some x8) else (impl_Lattice_drop.l0 k x1 x7 (wrap64 (x8 + 1)) x1691000 x1691001 x1691002))) else (some (-1))) ?_
  repeat' first
    | (with_reducible exact impl_Lattice_drop.l0_lim _ _ _ _ _ _)
    | exact Lim.const _
    | refine Lim.ite ?_ ?_
    | refine Lim.bind ?_ (fun _ => ?_)
theorem impl_Lattice_drop.fv_eq (a0_0 : Int) (a0_1 : Int) (a0_2 : Int) (a1 : Int) : impl_Lattice_drop.fv a0_0 a0_1 a0_2 a1 = (impl_Lattice_repeat.fv a0_0 a0_1 a0_2).bind fun t1691 => (impl_Lattice_drop.l0v a1 t1691 0 a0_0 a0_1 a0_2) := by
  refine lim_now (fun k => rfl) (f := fun k => (impl_Lattice_repeat.f k a0_0 a0_1 a0_2).bind fun t1691 => (impl_Lattice_drop.l0 k a1 t1691 0 a0_0 a0_1 a0_2)) ?_
  repeat' first
    | (with_reducible exact impl_Lattice_drop.l0_lim _ _ _ _ _ _)
    | (with_reducible exact impl_Lattice_repeat.f_lim _ _ _)
    | exact Lim.const _
    | refine Lim.ite ?_ ?_
    | refine Lim.bind ?_ (fun _ => ?_)

open Go.Proofs.YtomgliinndfliaaW.PrintWords
/-! ### impl_Pattern_keeps -/
theorem impl_Pattern_keeps.l0_mono (x9 : List (S38)) (x10 : Int) (x11 : Int) (x1424000 : Int) (x1424001 : Int) (x1424002 : Int) (x1424003 : Int) (x1424004 : List Int) (x1425000 : Int) (x1425001 : Int) (x1425002 : Int) (x1425003 : Int) (x1425004 : Int) (x1425005 : Int) : Mono (fun k => impl_Pattern_keeps.l0 k x9 x10 x11 x1424000 x1424001 x1424002 x1424003 x1424004 x1425000 x1425001 x1425002 x1425003 x1425004 x1425005) := (fun k => (impl_Pattern_keeps.mono_l k) x9 x10 x11 x1424000 x1424001 x1424002 x1424003 x1424004 x1425000 x1425001 x1425002 x1425003 x1425004 x1425005)
noncomputable def impl_Pattern_keeps.l0v (x9 : List (S38)) (x10 : Int) (x11 : Int) (x1424000 : Int) (x1424001 : Int) (x1424002 : Int) (x1424003 : Int) (x1424004 : List Int) (x1425000 : Int) (x1425001 : Int) (x1425002 : Int) (x1425003 : Int) (x1425004 : Int) (x1425005 : Int) : Option (Bool) := lim (fun k => impl_Pattern_keeps.l0 k x9 x10 x11 x1424000 x1424001 x1424002 x1424003 x1424004 x1425000 x1425001 x1425002 x1425003 x1425004 x1425005)
theorem impl_Pattern_keeps.l0_lim (x9 : List (S38)) (x10 : Int) (x11 : Int) (x1424000 : Int) (x1424001 : Int) (x1424002 : Int) (x1424003 : Int) (x1424004 : List Int) (x1425000 : Int) (x1425001 : Int) (x1425002 : Int) (x1425003 : Int) (x1425004 : Int) (x1425005 : Int) : Lim (fun k => impl_Pattern_keeps.l0 k x9 x10 x11 x1424000 x1424001 x1424002 x1424003 x1424004 x1425000 x1425001 x1425002 x1425003 x1425004 x1425005) (impl_Pattern_keeps.l0v x9 x10 x11 x1424000 x1424001 x1424002 x1424003 x1424004 x1425000 x1425001 x1425002 x1425003 x1425004 x1425005) := lim_Lim (impl_Pattern_keeps.l0_mono x9 x10 x11 x1424000 x1424001 x1424002 x1424003 x1424004 x1425000 x1425001 x1425002 x1425003 x1425004 x1425005)
theorem impl_Pattern_keeps.f_mono (a0_0 : Int) (a0_1 : Int) (a0_2 : Int) (a0_3 : Int) (l0_4 : List Int) (a1_0 : Int) (a1_1 : Int) (a1_2 : Int) (a1_3 : Int) (a1_4 : Int) (a1_5 : Int) : Mono (fun k => impl_Pattern_keeps.f k a0_0 a0_1 a0_2 a0_3 l0_4 a1_0 a1_1 a1_2 a1_3 a1_4 a1_5) := (fun k => impl_Pattern_keeps.mono a0_0 a0_1 a0_2 a0_3 l0_4 a1_0 a1_1 a1_2 a1_3 a1_4 a1_5 k)
noncomputable def impl_Pattern_keeps.fv (a0_0 : Int) (a0_1 : Int) (a0_2 : Int) (a0_3 : Int) (l0_4 : List Int) (a1_0 : Int) (a1_1 : Int) (a1_2 : Int) (a1_3 : Int) (a1_4 : Int) (a1_5 : Int) : Option (Bool) := lim (fun k => impl_Pattern_keeps.f k a0_0 a0_1 a0_2 a0_3 l0_4 a1_0 a1_1 a1_2 a1_3 a1_4 a1_5)
theorem impl_Pattern_keeps.f_lim (a0_0 : Int) (a0_1 : Int) (a0_2 : Int) (a0_3 : Int) (l0_4 : List Int) (a1_0 : Int) (a1_1 : Int) (a1_2 : Int) (a1_3 : Int) (a1_4 : Int) (a1_5 : Int) : Lim (fun k => impl_Pattern_keeps.f k a0_0 a0_1 a0_2 a0_3 l0_4 a1_0 a1_1 a1_2 a1_3 a1_4 a1_5) (impl_Pattern_keeps.fv a0_0 a0_1 a0_2 a0_3 l0_4 a1_0 a1_1 a1_2 a1_3 a1_4 a1_5) := lim_Lim (impl_Pattern_keeps.f_mono a0_0 a0_1 a0_2 a0_3 l0_4 a1_0 a1_1 a1_2 a1_3 a1_4 a1_5)
theorem impl_Pattern_keeps.l0v_eq (x9 : List (S38)) (x10 : Int) (x11 : Int) (x1424000 : Int) (x1424001 : Int) (x1424002 : Int) (x1424003 : Int) (x1424004 : List Int) (x1425000 : Int) (x1425001 : Int) (x1425002 : Int) (x1425003 : Int) (x1425004 : Int) (x1425005 : Int) : impl_Pattern_keeps.l0v x9 x10 x11 x1424000 x1424001 x1424002 x1424003 x1424004 x1425000 x1425001 x1425002 x1425003 x1425004 x1425005 = if x11 < x10 then (if 0 ≤ x11 then (if x11 < (x9.length : Int) then ((impl_Motion_apply.f x1425000 x1425001 x1425002 x1425003 x1425004 x1425005 ((rd_T38 x9 x11).f0) ((rd_T38 x9 x11).f1)).bind fun bt1430 => ((impl_Pattern_at.f x1424000 x1424001 x1424002 x1424003 x1424004 bt1430.1 bt1430.2).bind fun t1432 => (if x11 < (x1424004.length : Int) then (if t1432 = (rd x1424004 x11) then (impl_Pattern_keeps.l0v x9 x10 (wrap64 (x11 + 1)) x1424000 x1424001 x1424002 x1424003 x1424004 x1425000 x1425001 x1425002 x1425003 x1425004 x1425005) else (some false)) else (none)))) else (none)) else (none)) else (some true) := by
  refine lim_step (impl_Pattern_keeps.l0_mono x9 x10 x11 x1424000 x1424001 x1424002 x1424003 x1424004 x1425000 x1425001 x1425002 x1425003 x1425004 x1425005) (fun k => by rw [impl_Pattern_keeps.l0]) (f := fun k => if x11 < x10 then (if 0 ≤ x11 then (if x11 < (x9.length : Int) then ((impl_Motion_apply.f x1425000 x1425001 x1425002 x1425003 x1425004 x1425005 ((rd_T38 x9 x11).f0) ((rd_T38 x9 x11).f1)).bind fun bt1430 => ((impl_Pattern_at.f x1424000 x1424001 x1424002 x1424003 x1424004 bt1430.1 bt1430.2).bind fun t1432 => (if x11 < (x1424004.length : Int) then (if t1432 = (rd x1424004 x11) then (impl_Pattern_keeps.l0 k x9 x10 (wrap64 (x11 + 1)) x1424000 x1424001 x1424002 x1424003 x1424004 x1425000 x1425001 x1425002 x1425003 x1425004 x1425005) else (some false)) else (none)))) else (none)) else (none)) else (some true)) ?_
  repeat' first
    | (with_reducible exact impl_Pattern_keeps.l0_lim _ _ _ _ _ _ _ _ _ _ _ _ _ _)
    | exact Lim.const _
    | refine Lim.ite ?_ ?_
    | refine Lim.bind ?_ (fun _ => ?_)
theorem impl_Pattern_keeps.fv_eq (a0_0 : Int) (a0_1 : Int) (a0_2 : Int) (a0_3 : Int) (l0_4 : List Int) (a1_0 : Int) (a1_1 : Int) (a1_2 : Int) (a1_3 : Int) (a1_4 : Int) (a1_5 : Int) : impl_Pattern_keeps.fv a0_0 a0_1 a0_2 a0_3 l0_4 a1_0 a1_1 a1_2 a1_3 a1_4 a1_5 = (impl_Lattice_cells.fv a0_1 a0_2 a0_3).bind fun t1425 => (impl_Pattern_keeps.l0v t1425 (t1425.length : Int) 0 a0_0 a0_1 a0_2 a0_3 l0_4 a1_0 a1_1 a1_2 a1_3 a1_4 a1_5) := by
  refine lim_now (fun k => rfl) (f := fun k => (impl_Lattice_cells.f k a0_1 a0_2 a0_3).bind fun t1425 => (impl_Pattern_keeps.l0 k t1425 (t1425.length : Int) 0 a0_0 a0_1 a0_2 a0_3 l0_4 a1_0 a1_1 a1_2 a1_3 a1_4 a1_5)) ?_
  repeat' first
    | (with_reducible exact impl_Lattice_cells.f_lim _ _ _)
    | (with_reducible exact impl_Pattern_keeps.l0_lim _ _ _ _ _ _ _ _ _ _ _ _ _ _)
    | exact Lim.const _
    | refine Lim.ite ?_ ?_
    | refine Lim.bind ?_ (fun _ => ?_)

open Go.Proofs.YtomgliinndfliaaW.PrintWords
/-! ### impl_Pattern_fullLattice -/
theorem impl_Pattern_fullLattice.l0_mono (x5 : List (S38)) (x19 : List (S38)) (x20 : Int) (x21 : Int) (x1435000 : Int) (x1435001 : Int) (x1435002 : Int) (x1435003 : Int) (x1435004 : List Int) : Mono (fun k => impl_Pattern_fullLattice.l0 k x5 x19 x20 x21 x1435000 x1435001 x1435002 x1435003 x1435004) := (fun k => (impl_Pattern_fullLattice.mono_l k) x5 x19 x20 x21 x1435000 x1435001 x1435002 x1435003 x1435004)
noncomputable def impl_Pattern_fullLattice.l0v (x5 : List (S38)) (x19 : List (S38)) (x20 : Int) (x21 : Int) (x1435000 : Int) (x1435001 : Int) (x1435002 : Int) (x1435003 : Int) (x1435004 : List Int) : Option (Int × Int × Int) := lim (fun k => impl_Pattern_fullLattice.l0 k x5 x19 x20 x21 x1435000 x1435001 x1435002 x1435003 x1435004)
theorem impl_Pattern_fullLattice.l0_lim (x5 : List (S38)) (x19 : List (S38)) (x20 : Int) (x21 : Int) (x1435000 : Int) (x1435001 : Int) (x1435002 : Int) (x1435003 : Int) (x1435004 : List Int) : Lim (fun k => impl_Pattern_fullLattice.l0 k x5 x19 x20 x21 x1435000 x1435001 x1435002 x1435003 x1435004) (impl_Pattern_fullLattice.l0v x5 x19 x20 x21 x1435000 x1435001 x1435002 x1435003 x1435004) := lim_Lim (impl_Pattern_fullLattice.l0_mono x5 x19 x20 x21 x1435000 x1435001 x1435002 x1435003 x1435004)
theorem impl_Pattern_fullLattice.f_mono (a0_0 : Int) (a0_1 : Int) (a0_2 : Int) (a0_3 : Int) (l0_4 : List Int) : Mono (fun k => impl_Pattern_fullLattice.f k a0_0 a0_1 a0_2 a0_3 l0_4) := (fun k => impl_Pattern_fullLattice.mono a0_0 a0_1 a0_2 a0_3 l0_4 k)
noncomputable def impl_Pattern_fullLattice.fv (a0_0 : Int) (a0_1 : Int) (a0_2 : Int) (a0_3 : Int) (l0_4 : List Int) : Option (Int × Int × Int) := lim (fun k => impl_Pattern_fullLattice.f k a0_0 a0_1 a0_2 a0_3 l0_4)
theorem impl_Pattern_fullLattice.f_lim (a0_0 : Int) (a0_1 : Int) (a0_2 : Int) (a0_3 : Int) (l0_4 : List Int) : Lim (fun k => impl_Pattern_fullLattice.f k a0_0 a0_1 a0_2 a0_3 l0_4) (impl_Pattern_fullLattice.fv a0_0 a0_1 a0_2 a0_3 l0_4) := lim_Lim (impl_Pattern_fullLattice.f_mono a0_0 a0_1 a0_2 a0_3 l0_4)
theorem impl_Pattern_fullLattice.l0v_eq (x5 : List (S38)) (x19 : List (S38)) (x20 : Int) (x21 : Int) (x1435000 : Int) (x1435001 : Int) (x1435002 : Int) (x1435003 : Int) (x1435004 : List Int) : impl_Pattern_fullLattice.l0v x5 x19 x20 x21 x1435000 x1435001 x1435002 x1435003 x1435004 = if x21 < x20 then (if 0 ≤ x21 then (if x21 < (x19.length : Int) then ((impl_unit.f).bind fun bt1453 => ((impl_Pattern_keeps.fv x1435000 x1435001 x1435002 x1435003 x1435004 bt1453.1 bt1453.2.1 bt1453.2.2.1 bt1453.2.2.2 ((rd_T38 x19 x21).f0) ((rd_T38 x19 x21).f1)).bind fun t1457 => (if t1457 = true then (if x5.length < 8796093022208 then (impl_Pattern_fullLattice.l0v (x5 ++ [(⟨(rd_T38 x19 x21).f0, (rd_T38 x19 x21).f1⟩ : S38)]) x19 x20 (wrap64 (x21 + 1)) x1435000 x1435001 x1435002 x1435003 x1435004) else (none)) else (impl_Pattern_fullLattice.l0v x5 x19 x20 (wrap64 (x21 + 1)) x1435000 x1435001 x1435002 x1435003 x1435004)))) else (none)) else (none)) else ((impl_latticeOf.fv x5).bind fun bt1448 => (some (bt1448.1, bt1448.2.1, bt1448.2.2))) := by
  refine lim_step (impl_Pattern_fullLattice.l0_mono x5 x19 x20 x21 x1435000 x1435001 x1435002 x1435003 x1435004) (fun k => by rw [impl_Pattern_fullLattice.l0]) (f := fun k => if x21 < x20 then (if 0 ≤ x21 then (if x21 < (x19.length : Int) then ((impl_unit.f).bind fun bt1453 => ((impl_Pattern_keeps.f k x1435000 x1435001 x1435002 x1435003 x1435004 bt1453.1 bt1453.2.1 bt1453.2.2.1 bt1453.2.2.2 ((rd_T38 x19 x21).f0) ((rd_T38 x19 x21).f1)).bind fun t1457 => (if t1457 = true then (if x5.length < 8796093022208 then (impl_Pattern_fullLattice.l0 k (x5 ++ [(⟨(rd_T38 x19 x21).f0, (rd_T38 x19 x21).f1⟩ : S38)]) x19 x20 (wrap64 (x21 + 1)) x1435000 x1435001 x1435002 x1435003 x1435004) else (none)) else (impl_Pattern_fullLattice.l0 k x5 x19 x20 (wrap64 (x21 + 1)) x1435000 x1435001 x1435002 x1435003 x1435004)))) else (none)) else (none)) else ((impl_latticeOf.f k x5).bind fun bt1448 => (some (bt1448.1, bt1448.2.1, bt1448.2.2)))) ?_
  repeat' first
    | (with_reducible exact impl_Pattern_fullLattice.l0_lim _ _ _ _ _ _ _ _ _)
    | (with_reducible exact impl_Pattern_keeps.f_lim _ _ _ _ _ _ _ _ _ _ _)
    | (with_reducible exact impl_latticeOf.f_lim _)
    | exact Lim.const _
    | refine Lim.ite ?_ ?_
    | refine Lim.bind ?_ (fun _ => ?_)
theorem impl_Pattern_fullLattice.fv_eq (a0_0 : Int) (a0_1 : Int) (a0_2 : Int) (a0_3 : Int) (l0_4 : List Int) : impl_Pattern_fullLattice.fv a0_0 a0_1 a0_2 a0_3 l0_4 = (impl_Lattice_basis.f a0_1 a0_2 a0_3).bind fun bt1436 => ((impl_Lattice_cells.fv a0_1 a0_2 a0_3).bind fun t1445 => (impl_Pattern_fullLattice.l0v (([(⟨bt1436.1, bt1436.2.1⟩ : S38), (⟨bt1436.2.2.1, bt1436.2.2.2⟩ : S38)] : List (S38))) t1445 (t1445.length : Int) 0 a0_0 a0_1 a0_2 a0_3 l0_4)) := by
  refine lim_now (fun k => rfl) (f := fun k => (impl_Lattice_basis.f a0_1 a0_2 a0_3).bind fun bt1436 => ((impl_Lattice_cells.f k a0_1 a0_2 a0_3).bind fun t1445 => (impl_Pattern_fullLattice.l0 k (([(⟨bt1436.1, bt1436.2.1⟩ : S38), (⟨bt1436.2.2.1, bt1436.2.2.2⟩ : S38)] : List (S38))) t1445 (t1445.length : Int) 0 a0_0 a0_1 a0_2 a0_3 l0_4))) ?_
  repeat' first
    | (with_reducible exact impl_Lattice_cells.f_lim _ _ _)
    | (with_reducible exact impl_Pattern_fullLattice.l0_lim _ _ _ _ _ _ _ _ _)
    | exact Lim.const _
    | refine Lim.ite ?_ ?_
    | refine Lim.bind ?_ (fun _ => ?_)

open Go.Proofs.YtomgliinndfliaaW.PrintWords
/-! ### impl_rollLattice -/
theorem impl_rollLattice.f_mono (a0_0 : Int) (a0_1 : Int) (a0_2 : Int) (a0_3 : Int) (l0_4 : List Int) : Mono (fun k => impl_rollLattice.f k a0_0 a0_1 a0_2 a0_3 l0_4) := (fun k => impl_rollLattice.mono a0_0 a0_1 a0_2 a0_3 l0_4 k)
noncomputable def impl_rollLattice.fv (a0_0 : Int) (a0_1 : Int) (a0_2 : Int) (a0_3 : Int) (l0_4 : List Int) : Option (Int × Int × Int × Int) := lim (fun k => impl_rollLattice.f k a0_0 a0_1 a0_2 a0_3 l0_4)
theorem impl_rollLattice.f_lim (a0_0 : Int) (a0_1 : Int) (a0_2 : Int) (a0_3 : Int) (l0_4 : List Int) : Lim (fun k => impl_rollLattice.f k a0_0 a0_1 a0_2 a0_3 l0_4) (impl_rollLattice.fv a0_0 a0_1 a0_2 a0_3 l0_4) := lim_Lim (impl_rollLattice.f_mono a0_0 a0_1 a0_2 a0_3 l0_4)
theorem impl_rollLattice.fv_eq (a0_0 : Int) (a0_1 : Int) (a0_2 : Int) (a0_3 : Int) (l0_4 : List Int) : impl_rollLattice.fv a0_0 a0_1 a0_2 a0_3 l0_4 = (impl_IsPattern.f a0_0 a0_1 a0_2 a0_3 l0_4).bind fun t1578 => (if t1578 = true then (if a0_0 = 0 then ((impl_Pattern_fullLattice.fv a0_0 a0_1 a0_2 a0_3 l0_4).bind fun bt1579 => (some (bt1579.1, bt1579.2.1, bt1579.2.2, 0))) else (some (0, 0, 0, 1))) else (some (0, 0, 0, 1))) := by
  refine lim_now (fun k => rfl) (f := fun k => (impl_IsPattern.f a0_0 a0_1 a0_2 a0_3 l0_4).bind fun t1578 => (if t1578 = true then (if a0_0 = 0 then ((impl_Pattern_fullLattice.f k a0_0 a0_1 a0_2 a0_3 l0_4).bind fun bt1579 => (some (bt1579.1, bt1579.2.1, bt1579.2.2, 0))) else (some (0, 0, 0, 1))) else (some (0, 0, 0, 1)))) ?_
  repeat' first
    | (with_reducible exact impl_Pattern_fullLattice.f_lim _ _ _ _ _)
    | exact Lim.const _
    | refine Lim.ite ?_ ?_
    | refine Lim.bind ?_ (fun _ => ?_)

open Go.Proofs.YtomgliinndfliaaW.PrintWords
/-! ### spec_l09Keeps -/
theorem spec_l09Keeps.l0_mono (x5 : List (S38)) (x6 : Int) (x1324000 : Int) (x1324001 : Int) (x1324002 : Int) (x1324003 : Int) (x1324004 : List Int) (x1325000 : Int) (x1325001 : Int) (x1325002 : Int) (x1325003 : Int) (x1325004 : Int) (x1325005 : Int) : Mono (fun k => spec_l09Keeps.l0 k x5 x6 x1324000 x1324001 x1324002 x1324003 x1324004 x1325000 x1325001 x1325002 x1325003 x1325004 x1325005) := (fun k => (spec_l09Keeps.mono_l k) x5 x6 x1324000 x1324001 x1324002 x1324003 x1324004 x1325000 x1325001 x1325002 x1325003 x1325004 x1325005)
noncomputable def spec_l09Keeps.l0v (x5 : List (S38)) (x6 : Int) (x1324000 : Int) (x1324001 : Int) (x1324002 : Int) (x1324003 : Int) (x1324004 : List Int) (x1325000 : Int) (x1325001 : Int) (x1325002 : Int) (x1325003 : Int) (x1325004 : Int) (x1325005 : Int) : Option (Bool) := lim (fun k => spec_l09Keeps.l0 k x5 x6 x1324000 x1324001 x1324002 x1324003 x1324004 x1325000 x1325001 x1325002 x1325003 x1325004 x1325005)
theorem spec_l09Keeps.l0_lim (x5 : List (S38)) (x6 : Int) (x1324000 : Int) (x1324001 : Int) (x1324002 : Int) (x1324003 : Int) (x1324004 : List Int) (x1325000 : Int) (x1325001 : Int) (x1325002 : Int) (x1325003 : Int) (x1325004 : Int) (x1325005 : Int) : Lim (fun k => spec_l09Keeps.l0 k x5 x6 x1324000 x1324001 x1324002 x1324003 x1324004 x1325000 x1325001 x1325002 x1325003 x1325004 x1325005) (spec_l09Keeps.l0v x5 x6 x1324000 x1324001 x1324002 x1324003 x1324004 x1325000 x1325001 x1325002 x1325003 x1325004 x1325005) := lim_Lim (spec_l09Keeps.l0_mono x5 x6 x1324000 x1324001 x1324002 x1324003 x1324004 x1325000 x1325001 x1325002 x1325003 x1325004 x1325005)
theorem spec_l09Keeps.f_mono (a0_0 : Int) (a0_1 : Int) (a0_2 : Int) (a0_3 : Int) (l0_4 : List Int) (a1_0 : Int) (a1_1 : Int) (a1_2 : Int) (a1_3 : Int) (a1_4 : Int) (a1_5 : Int) : Mono (fun k => spec_l09Keeps.f k a0_0 a0_1 a0_2 a0_3 l0_4 a1_0 a1_1 a1_2 a1_3 a1_4 a1_5) := (fun k => spec_l09Keeps.mono a0_0 a0_1 a0_2 a0_3 l0_4 a1_0 a1_1 a1_2 a1_3 a1_4 a1_5 k)
noncomputable def spec_l09Keeps.fv (a0_0 : Int) (a0_1 : Int) (a0_2 : Int) (a0_3 : Int) (l0_4 : List Int) (a1_0 : Int) (a1_1 : Int) (a1_2 : Int) (a1_3 : Int) (a1_4 : Int) (a1_5 : Int) : Option (Bool) := lim (fun k => spec_l09Keeps.f k a0_0 a0_1 a0_2 a0_3 l0_4 a1_0 a1_1 a1_2 a1_3 a1_4 a1_5)
theorem spec_l09Keeps.f_lim (a0_0 : Int) (a0_1 : Int) (a0_2 : Int) (a0_3 : Int) (l0_4 : List Int) (a1_0 : Int) (a1_1 : Int) (a1_2 : Int) (a1_3 : Int) (a1_4 : Int) (a1_5 : Int) : Lim (fun k => spec_l09Keeps.f k a0_0 a0_1 a0_2 a0_3 l0_4 a1_0 a1_1 a1_2 a1_3 a1_4 a1_5) (spec_l09Keeps.fv a0_0 a0_1 a0_2 a0_3 l0_4 a1_0 a1_1 a1_2 a1_3 a1_4 a1_5) := lim_Lim (spec_l09Keeps.f_mono a0_0 a0_1 a0_2 a0_3 l0_4 a1_0 a1_1 a1_2 a1_3 a1_4 a1_5)
theorem spec_l09Keeps.l0v_eq (x5 : List (S38)) (x6 : Int) (x1324000 : Int) (x1324001 : Int) (x1324002 : Int) (x1324003 : Int) (x1324004 : List Int) (x1325000 : Int) (x1325001 : Int) (x1325002 : Int) (x1325003 : Int) (x1325004 : Int) (x1325005 : Int) : spec_l09Keeps.l0v x5 x6 x1324000 x1324001 x1324002 x1324003 x1324004 x1325000 x1325001 x1325002 x1325003 x1325004 x1325005 = if x6 < (x5.length : Int) then (if 0 ≤ x6 then ((spec_l05Apply.f x1325000 x1325001 x1325002 x1325003 x1325004 x1325005 ((rd_T38 x5 x6).f0) ((rd_T38 x5 x6).f1)).bind fun bt1329 => ((spec_l09At.f x1324000 x1324001 x1324002 x1324003 x1324004 bt1329.1 bt1329.2).bind fun t1331 => ((spec_l09At.f x1324000 x1324001 x1324002 x1324003 x1324004 ((rd_T38 x5 x6).f0) ((rd_T38 x5 x6).f1)).bind fun t1333 => (if t1331 = t1333 then (spec_l09Keeps.l0v x5 (wrap64 (x6 + 1)) x1324000 x1324001 x1324002 x1324003 x1324004 x1325000 x1325001 x1325002 x1325003 x1325004 x1325005) else (some false))))) else (none)) else (some true) := by
  refine lim_step (spec_l09Keeps.l0_mono x5 x6 x1324000 x1324001 x1324002 x1324003 x1324004 x1325000 x1325001 x1325002 x1325003 x1325004 x1325005) (fun k => by rw [spec_l09Keeps.l0]) (f := fun k => if x6 < (x5.length : Int) then (if 0 ≤ x6 then ((spec_l05Apply.f x1325000 x1325001 x1325002 x1325003 x1325004 x1325005 ((rd_T38 x5 x6).f0) ((rd_T38 x5 x6).f1)).bind fun bt1329 => ((spec_l09At.f x1324000 x1324001 x1324002 x1324003 x1324004 bt1329.1 bt1329.2).bind fun t1331 => ((spec_l09At.f x1324000 x1324001 x1324002 x1324003 x1324004 ((rd_T38 x5 x6).f0) ((rd_T38 x5 x6).f1)).bind fun t1333 => (if t1331 = t1333 then (spec_l09Keeps.l0 k x5 (wrap64 (x6 + 1)) x1324000 x1324001 x1324002 x1324003 x1324004 x1325000 x1325001 x1325002 x1325003 x1325004 x1325005) else (some false))))) else (none)) else (some true)) ?_
  repeat' first
    | (with_reducible exact spec_l09Keeps.l0_lim _ _ _ _ _ _ _ _ _ _ _ _ _)
    | exact Lim.const _
    | refine Lim.ite ?_ ?_
    | refine Lim.bind ?_ (fun _ => ?_)
theorem spec_l09Keeps.fv_eq (a0_0 : Int) (a0_1 : Int) (a0_2 : Int) (a0_3 : Int) (l0_4 : List Int) (a1_0 : Int) (a1_1 : Int) (a1_2 : Int) (a1_3 : Int) (a1_4 : Int) (a1_5 : Int) : spec_l09Keeps.fv a0_0 a0_1 a0_2 a0_3 l0_4 a1_0 a1_1 a1_2 a1_3 a1_4 a1_5 = (spec_l03Cells.fv a0_1 a0_2 a0_3).bind fun t1325 => (spec_l09Keeps.l0v t1325 0 a0_0 a0_1 a0_2 a0_3 l0_4 a1_0 a1_1 a1_2 a1_3 a1_4 a1_5) := by
  refine lim_now (fun k => rfl) (f := fun k => (spec_l03Cells.f k a0_1 a0_2 a0_3).bind fun t1325 => (spec_l09Keeps.l0 k t1325 0 a0_0 a0_1 a0_2 a0_3 l0_4 a1_0 a1_1 a1_2 a1_3 a1_4 a1_5)) ?_
  repeat' first
    | (with_reducible exact spec_l03Cells.f_lim _ _ _)
    | (with_reducible exact spec_l09Keeps.l0_lim _ _ _ _ _ _ _ _ _ _ _ _ _)
    | exact Lim.const _
    | refine Lim.ite ?_ ?_
    | refine Lim.bind ?_ (fun _ => ?_)

open Go.Proofs.YtomgliinndfliaaW.PrintWords
/-! ### spec_l09Full -/
theorem spec_l09Full.l0_mono (x3 : List (S38)) (x4 : List (S38)) (x5 : Int) (x1335000 : Int) (x1335001 : Int) (x1335002 : Int) (x1335003 : Int) (x1335004 : List Int) : Mono (fun k => spec_l09Full.l0 k x3 x4 x5 x1335000 x1335001 x1335002 x1335003 x1335004) := (fun k => (spec_l09Full.mono_l k) x3 x4 x5 x1335000 x1335001 x1335002 x1335003 x1335004)
noncomputable def spec_l09Full.l0v (x3 : List (S38)) (x4 : List (S38)) (x5 : Int) (x1335000 : Int) (x1335001 : Int) (x1335002 : Int) (x1335003 : Int) (x1335004 : List Int) : Option (Int × Int × Int) := lim (fun k => spec_l09Full.l0 k x3 x4 x5 x1335000 x1335001 x1335002 x1335003 x1335004)
theorem spec_l09Full.l0_lim (x3 : List (S38)) (x4 : List (S38)) (x5 : Int) (x1335000 : Int) (x1335001 : Int) (x1335002 : Int) (x1335003 : Int) (x1335004 : List Int) : Lim (fun k => spec_l09Full.l0 k x3 x4 x5 x1335000 x1335001 x1335002 x1335003 x1335004) (spec_l09Full.l0v x3 x4 x5 x1335000 x1335001 x1335002 x1335003 x1335004) := lim_Lim (spec_l09Full.l0_mono x3 x4 x5 x1335000 x1335001 x1335002 x1335003 x1335004)
theorem spec_l09Full.f_mono (a0_0 : Int) (a0_1 : Int) (a0_2 : Int) (a0_3 : Int) (l0_4 : List Int) : Mono (fun k => spec_l09Full.f k a0_0 a0_1 a0_2 a0_3 l0_4) := (fun k => spec_l09Full.mono a0_0 a0_1 a0_2 a0_3 l0_4 k)
noncomputable def spec_l09Full.fv (a0_0 : Int) (a0_1 : Int) (a0_2 : Int) (a0_3 : Int) (l0_4 : List Int) : Option (Int × Int × Int) := lim (fun k => spec_l09Full.f k a0_0 a0_1 a0_2 a0_3 l0_4)
theorem spec_l09Full.f_lim (a0_0 : Int) (a0_1 : Int) (a0_2 : Int) (a0_3 : Int) (l0_4 : List Int) : Lim (fun k => spec_l09Full.f k a0_0 a0_1 a0_2 a0_3 l0_4) (spec_l09Full.fv a0_0 a0_1 a0_2 a0_3 l0_4) := lim_Lim (spec_l09Full.f_mono a0_0 a0_1 a0_2 a0_3 l0_4)
theorem spec_l09Full.l0v_eq (x3 : List (S38)) (x4 : List (S38)) (x5 : Int) (x1335000 : Int) (x1335001 : Int) (x1335002 : Int) (x1335003 : Int) (x1335004 : List Int) : spec_l09Full.l0v x3 x4 x5 x1335000 x1335001 x1335002 x1335003 x1335004 = if x5 < (x3.length : Int) then ((spec_l02Unit.f).bind fun bt1345 => (if 0 ≤ x5 then ((spec_l09Keeps.fv x1335000 x1335001 x1335002 x1335003 x1335004 bt1345.1 bt1345.2.1 bt1345.2.2.1 bt1345.2.2.2 ((rd_T38 x3 x5).f0) ((rd_T38 x3 x5).f1)).bind fun t1350 => (if t1350 = true then (if x4.length < 8796093022208 then (spec_l09Full.l0v x3 (x4 ++ [(⟨(rd_T38 x3 x5).f0, (rd_T38 x3 x5).f1⟩ : S38)]) (wrap64 (x5 + 1)) x1335000 x1335001 x1335002 x1335003 x1335004) else (none)) else (spec_l09Full.l0v x3 x4 (wrap64 (x5 + 1)) x1335000 x1335001 x1335002 x1335003 x1335004))) else (none))) else ((spec_l03Hermite.fv x4).bind fun bt1342 => (some (bt1342.1, bt1342.2.1, bt1342.2.2))) := by
  refine lim_step (spec_l09Full.l0_mono x3 x4 x5 x1335000 x1335001 x1335002 x1335003 x1335004) (fun k => by rw [spec_l09Full.l0]) (f := fun k => if x5 < (x3.length : Int) then ((spec_l02Unit.f).bind fun bt1345 => (if 0 ≤ x5 then ((spec_l09Keeps.f k x1335000 x1335001 x1335002 x1335003 x1335004 bt1345.1 bt1345.2.1 bt1345.2.2.1 bt1345.2.2.2 ((rd_T38 x3 x5).f0) ((rd_T38 x3 x5).f1)).bind fun t1350 => (if t1350 = true then (if x4.length < 8796093022208 then (spec_l09Full.l0 k x3 (x4 ++ [(⟨(rd_T38 x3 x5).f0, (rd_T38 x3 x5).f1⟩ : S38)]) (wrap64 (x5 + 1)) x1335000 x1335001 x1335002 x1335003 x1335004) else (none)) else (spec_l09Full.l0 k x3 x4 (wrap64 (x5 + 1)) x1335000 x1335001 x1335002 x1335003 x1335004))) else (none))) else ((spec_l03Hermite.f k x4).bind fun bt1342 => (some (bt1342.1, bt1342.2.1, bt1342.2.2)))) ?_
  repeat' first
    | (with_reducible exact spec_l03Hermite.f_lim _)
    | (with_reducible exact spec_l09Full.l0_lim _ _ _ _ _ _ _ _)
    | (with_reducible exact spec_l09Keeps.f_lim _ _ _ _ _ _ _ _ _ _ _)
    | exact Lim.const _
    | refine Lim.ite ?_ ?_
    | refine Lim.bind ?_ (fun _ => ?_)
theorem spec_l09Full.fv_eq (a0_0 : Int) (a0_1 : Int) (a0_2 : Int) (a0_3 : Int) (l0_4 : List Int) : spec_l09Full.fv a0_0 a0_1 a0_2 a0_3 l0_4 = (spec_l03Cells.fv a0_1 a0_2 a0_3).bind fun t1336 => ((spec_l03Basis.f a0_1 a0_2 a0_3).bind fun t1339 => (spec_l09Full.l0v t1336 t1339 0 a0_0 a0_1 a0_2 a0_3 l0_4)) := by
  refine lim_now (fun k => rfl) (f := fun k => (spec_l03Cells.f k a0_1 a0_2 a0_3).bind fun t1336 => ((spec_l03Basis.f a0_1 a0_2 a0_3).bind fun t1339 => (spec_l09Full.l0 k t1336 t1339 0 a0_0 a0_1 a0_2 a0_3 l0_4))) ?_
  repeat' first
    | (with_reducible exact spec_l03Cells.f_lim _ _ _)
    | (with_reducible exact spec_l09Full.l0_lim _ _ _ _ _ _ _ _)
    | exact Lim.const _
    | refine Lim.ite ?_ ?_
    | refine Lim.bind ?_ (fun _ => ?_)

open Go.Proofs.YtomgliinndfliaaW.PrintWords
/-! ### spec_l24Code -/
theorem spec_l24Code.j0_mono (x1 : Bool) (x13 : Bool) (x1558000 : Int) (x1558001 : Int) (x1558002 : Int) (x1558003 : Int) (x1558004 : List Int) : Mono (fun k => spec_l24Code.j0 k x1 x13 x1558000 x1558001 x1558002 x1558003 x1558004) := (fun k => (spec_l24Code.mono_l k) x1 x13 x1558000 x1558001 x1558002 x1558003 x1558004)
noncomputable def spec_l24Code.j0v (x1 : Bool) (x13 : Bool) (x1558000 : Int) (x1558001 : Int) (x1558002 : Int) (x1558003 : Int) (x1558004 : List Int) : Option (Int × Int × Int × Int) := lim (fun k => spec_l24Code.j0 k x1 x13 x1558000 x1558001 x1558002 x1558003 x1558004)
theorem spec_l24Code.j0_lim (x1 : Bool) (x13 : Bool) (x1558000 : Int) (x1558001 : Int) (x1558002 : Int) (x1558003 : Int) (x1558004 : List Int) : Lim (fun k => spec_l24Code.j0 k x1 x13 x1558000 x1558001 x1558002 x1558003 x1558004) (spec_l24Code.j0v x1 x13 x1558000 x1558001 x1558002 x1558003 x1558004) := lim_Lim (spec_l24Code.j0_mono x1 x13 x1558000 x1558001 x1558002 x1558003 x1558004)
theorem spec_l24Code.f_mono (a0_0 : Int) (a0_1 : Int) (a0_2 : Int) (a0_3 : Int) (l0_4 : List Int) (a1 : Bool) : Mono (fun k => spec_l24Code.f k a0_0 a0_1 a0_2 a0_3 l0_4 a1) := (fun k => spec_l24Code.mono a0_0 a0_1 a0_2 a0_3 l0_4 a1 k)
noncomputable def spec_l24Code.fv (a0_0 : Int) (a0_1 : Int) (a0_2 : Int) (a0_3 : Int) (l0_4 : List Int) (a1 : Bool) : Option (Int × Int × Int × Int) := lim (fun k => spec_l24Code.f k a0_0 a0_1 a0_2 a0_3 l0_4 a1)
theorem spec_l24Code.f_lim (a0_0 : Int) (a0_1 : Int) (a0_2 : Int) (a0_3 : Int) (l0_4 : List Int) (a1 : Bool) : Lim (fun k => spec_l24Code.f k a0_0 a0_1 a0_2 a0_3 l0_4 a1) (spec_l24Code.fv a0_0 a0_1 a0_2 a0_3 l0_4 a1) := lim_Lim (spec_l24Code.f_mono a0_0 a0_1 a0_2 a0_3 l0_4 a1)
theorem spec_l24Code.j0v_eq (x1 : Bool) (x13 : Bool) (x1558000 : Int) (x1558001 : Int) (x1558002 : Int) (x1558003 : Int) (x1558004 : List Int) : spec_l24Code.j0v x1 x13 x1558000 x1558001 x1558002 x1558003 x1558004 = if x13 = true then (some (0, 0, 0, 1)) else (if x1 = true then ((spec_l09Full.fv x1558000 x1558001 x1558002 x1558003 x1558004).bind fun bt1560 => (some (bt1560.1, bt1560.2.1, bt1560.2.2, 0))) else (some (0, 0, 0, 2))) := by
  refine lim_step (spec_l24Code.j0_mono x1 x13 x1558000 x1558001 x1558002 x1558003 x1558004) (fun k => by rw [spec_l24Code.j0]) (f := fun k => if x13 = true then (some (0, 0, 0, 1)) else (if x1 = true then ((spec_l09Full.f k x1558000 x1558001 x1558002 x1558003 x1558004).bind fun bt1560 => (some (bt1560.1, bt1560.2.1, bt1560.2.2, 0))) else (some (0, 0, 0, 2)))) ?_
  repeat' first
    | (with_reducible exact spec_l09Full.f_lim _ _ _ _ _)
    | exact Lim.const _
    | refine Lim.ite ?_ ?_
    | refine Lim.bind ?_ (fun _ => ?_)
theorem spec_l24Code.fv_eq (a0_0 : Int) (a0_1 : Int) (a0_2 : Int) (a0_3 : Int) (l0_4 : List Int) (a1 : Bool) : spec_l24Code.fv a0_0 a0_1 a0_2 a0_3 l0_4 a1 = (spec_IsPattern.fv a0_0 a0_1 a0_2 a0_3 l0_4).bind fun t1559 => (if t1559 = true then (spec_l24Code.j0v a1 (a0_0 != 0) a0_0 a0_1 a0_2 a0_3 l0_4) else (spec_l24Code.j0v a1 true a0_0 a0_1 a0_2 a0_3 l0_4)) := by
  refine lim_now (fun k => rfl) (f := fun k => (spec_IsPattern.f k a0_0 a0_1 a0_2 a0_3 l0_4).bind fun t1559 => (if t1559 = true then (spec_l24Code.j0 k a1 (a0_0 != 0) a0_0 a0_1 a0_2 a0_3 l0_4) else (spec_l24Code.j0 k a1 true a0_0 a0_1 a0_2 a0_3 l0_4))) ?_
  repeat' first
    | (with_reducible exact spec_IsPattern.f_lim _ _ _ _ _)
    | (with_reducible exact spec_l24Code.j0_lim _ _ _ _ _ _ _)
    | exact Lim.const _
    | refine Lim.ite ?_ ?_
    | refine Lim.bind ?_ (fun _ => ?_)

open Go.Proofs.YtomgliinndfliaaW.PrintWords
/-! ### spec_l24Repeat -/
theorem spec_l24Repeat.l0_mono (x3 : Int) (x1568000 : Int) (x1568001 : Int) (x1568002 : Int) : Mono (fun k => spec_l24Repeat.l0 k x3 x1568000 x1568001 x1568002) := (fun k => (spec_l24Repeat.mono_l k) x3 x1568000 x1568001 x1568002)
noncomputable def spec_l24Repeat.l0v (x3 : Int) (x1568000 : Int) (x1568001 : Int) (x1568002 : Int) : Option (Int) := lim (fun k => spec_l24Repeat.l0 k x3 x1568000 x1568001 x1568002)
theorem spec_l24Repeat.l0_lim (x3 : Int) (x1568000 : Int) (x1568001 : Int) (x1568002 : Int) : Lim (fun k => spec_l24Repeat.l0 k x3 x1568000 x1568001 x1568002) (spec_l24Repeat.l0v x3 x1568000 x1568001 x1568002) := lim_Lim (spec_l24Repeat.l0_mono x3 x1568000 x1568001 x1568002)
theorem spec_l24Repeat.f_mono (a0_0 : Int) (a0_1 : Int) (a0_2 : Int) : Mono (fun k => spec_l24Repeat.f k a0_0 a0_1 a0_2) := (fun k => spec_l24Repeat.mono a0_0 a0_1 a0_2 k)
noncomputable def spec_l24Repeat.fv (a0_0 : Int) (a0_1 : Int) (a0_2 : Int) : Option (Int) := lim (fun k => spec_l24Repeat.f k a0_0 a0_1 a0_2)
theorem spec_l24Repeat.f_lim (a0_0 : Int) (a0_1 : Int) (a0_2 : Int) : Lim (fun k => spec_l24Repeat.f k a0_0 a0_1 a0_2) (spec_l24Repeat.fv a0_0 a0_1 a0_2) := lim_Lim (spec_l24Repeat.f_mono a0_0 a0_1 a0_2)
theorem spec_l24Repeat.l0v_eq (x3 : Int) (x1568000 : Int) (x1568001 : Int) (x1568002 : Int) : spec_l24Repeat.l0v x3 x1568000 x1568001 x1568002 = (spec_l03Has.f x1568000 x1568001 x1568002 0 x3).bind fun t1568 => (if t1568 = true then (some x3) else (spec_l24Repeat.l0v (wrap64 (x3 + 1)) x1568000 x1568001 x1568002)) := by
  refine lim_step (spec_l24Repeat.l0_mono x3 x1568000 x1568001 x1568002) (fun k => by rw [spec_l24Repeat.l0]) (f := fun k => (spec_l03Has.f x1568000 x1568001 x1568002 0 x3).bind fun t1568 => (if t1568 = true then (some x3) else (spec_l24Repeat.l0 k (wrap64 (x3 + 1)) x1568000 x1568001 x1568002))) ?_
  repeat' first
    | (with_reducible exact spec_l24Repeat.l0_lim _ _ _ _)
    | exact Lim.const _
    | refine Lim.ite ?_ ?_
    | refine Lim.bind ?_ (fun _ => ?_)
theorem spec_l24Repeat.fv_eq (a0_0 : Int) (a0_1 : Int) (a0_2 : Int) : spec_l24Repeat.fv a0_0 a0_1 a0_2 = spec_l24Repeat.l0v 1 a0_0 a0_1 a0_2 := by
  refine lim_now (fun k => rfl) (f := fun k => spec_l24Repeat.l0 k 1 a0_0 a0_1 a0_2) ?_
  repeat' first
    | (with_reducible exact spec_l24Repeat.l0_lim _ _ _ _)
    | exact Lim.const _
    | refine Lim.ite ?_ ?_
    | refine Lim.bind ?_ (fun _ => ?_)

open Go.Proofs.YtomgliinndfliaaW.PrintWords
/-! ### spec_l24Drop -/
theorem spec_l24Drop.l0_mono (x1 : Int) (x6 : Int) (x7 : Int) (x1680000 : Int) (x1680001 : Int) (x1680002 : Int) : Mono (fun k => spec_l24Drop.l0 k x1 x6 x7 x1680000 x1680001 x1680002) := (fun k => (spec_l24Drop.mono_l k) x1 x6 x7 x1680000 x1680001 x1680002)
noncomputable def spec_l24Drop.l0v (x1 : Int) (x6 : Int) (x7 : Int) (x1680000 : Int) (x1680001 : Int) (x1680002 : Int) : Option (Int × Bool) := lim (fun k => spec_l24Drop.l0 k x1 x6 x7 x1680000 x1680001 x1680002)
theorem spec_l24Drop.l0_lim (x1 : Int) (x6 : Int) (x7 : Int) (x1680000 : Int) (x1680001 : Int) (x1680002 : Int) : Lim (fun k => spec_l24Drop.l0 k x1 x6 x7 x1680000 x1680001 x1680002) (spec_l24Drop.l0v x1 x6 x7 x1680000 x1680001 x1680002) := lim_Lim (spec_l24Drop.l0_mono x1 x6 x7 x1680000 x1680001 x1680002)
theorem spec_l24Drop.f_mono (a0_0 : Int) (a0_1 : Int) (a0_2 : Int) (a1 : Int) : Mono (fun k => spec_l24Drop.f k a0_0 a0_1 a0_2 a1) := (fun k => spec_l24Drop.mono a0_0 a0_1 a0_2 a1 k)
noncomputable def spec_l24Drop.fv (a0_0 : Int) (a0_1 : Int) (a0_2 : Int) (a1 : Int) : Option (Int × Bool) := lim (fun k => spec_l24Drop.f k a0_0 a0_1 a0_2 a1)
theorem spec_l24Drop.f_lim (a0_0 : Int) (a0_1 : Int) (a0_2 : Int) (a1 : Int) : Lim (fun k => spec_l24Drop.f k a0_0 a0_1 a0_2 a1) (spec_l24Drop.fv a0_0 a0_1 a0_2 a1) := lim_Lim (spec_l24Drop.f_mono a0_0 a0_1 a0_2 a1)
theorem spec_l24Drop.l0v_eq (x1 : Int) (x6 : Int) (x7 : Int) (x1680000 : Int) (x1680001 : Int) (x1680002 : Int) : spec_l24Drop.l0v x1 x6 x7 x1680000 x1680001 x1680002 = if x7 < x6 then ((spec_l03Has.f x1680000 x1680001 x1680002 x1 (wrap64 (-x7))).bind fun t1681 => (if t1681 = true then (some (x7, true)) else (spec_l24Drop.l0v x1 x6 (wrap64 (x7 + 1)) x1680000 x1680001 x1680002))) else (some (0, false)) := by
  refine lim_step (spec_l24Drop.l0_mono x1 x6 x7 x1680000 x1680001 x1680002) (fun k => by rw [spec_l24Drop.l0]) (f := fun k => if x7 < x6 then ((spec_l03Has.f x1680000 x1680001 x1680002 x1 (wrap64 (-x7))).bind fun t1681 => (if t1681 = true then (some (x7, true)) else (spec_l24Drop.l0 k x1 x6 (wrap64 (x7 + 1)) x1680000 x1680001 x1680002))) else (some (0, false))) ?_
  repeat' first
    | (with_reducible exact spec_l24Drop.l0_lim _ _ _ _ _ _)
    | exact Lim.const _
    | refine Lim.ite ?_ ?_
    | refine Lim.bind ?_ (fun _ => ?_)
theorem spec_l24Drop.fv_eq (a0_0 : Int) (a0_1 : Int) (a0_2 : Int) (a1 : Int) : spec_l24Drop.fv a0_0 a0_1 a0_2 a1 = (spec_l24Repeat.fv a0_0 a0_1 a0_2).bind fun t1680 => (spec_l24Drop.l0v a1 t1680 0 a0_0 a0_1 a0_2) := by
  refine lim_now (fun k => rfl) (f := fun k => (spec_l24Repeat.f k a0_0 a0_1 a0_2).bind fun t1680 => (spec_l24Drop.l0 k a1 t1680 0 a0_0 a0_1 a0_2)) ?_
  repeat' first
    | (with_reducible exact spec_l24Drop.l0_lim _ _ _ _ _ _)
    | (with_reducible exact spec_l24Repeat.f_lim _ _ _)
    | exact Lim.const _
    | refine Lim.ite ?_ ?_
    | refine Lim.bind ?_ (fun _ => ?_)

open Go.Proofs.YtomgliinndfliaaW.PrintWords
/-! ### impl_panelStarts -/
theorem impl_panelStarts.l0_mono (x0 : Int) (x1 : Int) (x2 : Int) (x3 : Int) (x9 : List Int) (x10 : Int) : Mono (fun k => impl_panelStarts.l0 k x0 x1 x2 x3 x9 x10) := (fun k => (impl_panelStarts.mono_l k) x0 x1 x2 x3 x9 x10)
noncomputable def impl_panelStarts.l0v (x0 : Int) (x1 : Int) (x2 : Int) (x3 : Int) (x9 : List Int) (x10 : Int) : Option (List Int) := lim (fun k => impl_panelStarts.l0 k x0 x1 x2 x3 x9 x10)
theorem impl_panelStarts.l0_lim (x0 : Int) (x1 : Int) (x2 : Int) (x3 : Int) (x9 : List Int) (x10 : Int) : Lim (fun k => impl_panelStarts.l0 k x0 x1 x2 x3 x9 x10) (impl_panelStarts.l0v x0 x1 x2 x3 x9 x10) := lim_Lim (impl_panelStarts.l0_mono x0 x1 x2 x3 x9 x10)
theorem impl_panelStarts.f_mono (a0 : Int) (a1 : Int) (a2 : Int) (a3 : Int) : Mono (fun k => impl_panelStarts.f k a0 a1 a2 a3) := (fun k => impl_panelStarts.mono a0 a1 a2 a3 k)
noncomputable def impl_panelStarts.fv (a0 : Int) (a1 : Int) (a2 : Int) (a3 : Int) : Option (List Int) := lim (fun k => impl_panelStarts.f k a0 a1 a2 a3)
theorem impl_panelStarts.f_lim (a0 : Int) (a1 : Int) (a2 : Int) (a3 : Int) : Lim (fun k => impl_panelStarts.f k a0 a1 a2 a3) (impl_panelStarts.fv a0 a1 a2 a3) := lim_Lim (impl_panelStarts.f_mono a0 a1 a2 a3)
theorem impl_panelStarts.l0v_eq (x0 : Int) (x1 : Int) (x2 : Int) (x3 : Int) (x9 : List Int) (x10 : Int) : impl_panelStarts.l0v x0 x1 x2 x3 x9 x10 = if x10 < x3 then (if 0 ≤ (wrap64 (x10 - 1)) then (if (wrap64 (x10 - 1)) < (x9.length : Int) then ((impl_mod.f (wrap64 ((wrap64 (x10 * x1)) - (wrap64 ((rd x9 (wrap64 (x10 - 1))) + x2)))) x0).bind fun t1821 => (if x9.length < 17592186044416 then (impl_panelStarts.l0v x0 x1 x2 x3 (x9 ++ [wrap64 ((wrap64 ((rd x9 (wrap64 (x10 - 1))) + x2)) + t1821)]) (wrap64 (x10 + 1))) else (none))) else (none)) else (none)) else (some x9) := by
  refine lim_step (impl_panelStarts.l0_mono x0 x1 x2 x3 x9 x10) (fun k => by rw [impl_panelStarts.l0]) (f := fun k => if x10 < x3 then (if 0 ≤ (wrap64 (x10 - 1)) then (if (wrap64 (x10 - 1)) < (x9.length : Int) then ((impl_mod.f (wrap64 ((wrap64 (x10 * x1)) - (wrap64 ((rd x9 (wrap64 (x10 - 1))) + x2)))) x0).bind fun t1821 => (if x9.length < 17592186044416 then (impl_panelStarts.l0 k x0 x1 x2 x3 (x9 ++ [wrap64 ((wrap64 ((rd x9 (wrap64 (x10 - 1))) + x2)) + t1821)]) (wrap64 (x10 + 1))) else (none))) else (none)) else (none)) else (some x9)) ?_
  repeat' first
    | (with_reducible exact impl_panelStarts.l0_lim _ _ _ _ _ _)
    | exact Lim.const _
    | refine Lim.ite ?_ ?_
    | refine Lim.bind ?_ (fun _ => ?_)
theorem impl_panelStarts.fv_eq (a0 : Int) (a1 : Int) (a2 : Int) (a3 : Int) : impl_panelStarts.fv a0 a1 a2 a3 = impl_panelStarts.l0v a0 a1 a2 a3 (([0] : List Int)) 1 := by
  refine lim_now (fun k => rfl) (f := fun k => impl_panelStarts.l0 k a0 a1 a2 a3 (([0] : List Int)) 1) ?_
  repeat' first
    | (with_reducible exact impl_panelStarts.l0_lim _ _ _ _ _ _)
    | exact Lim.const _
    | refine Lim.ite ?_ ?_
    | refine Lim.bind ?_ (fun _ => ?_)

open Go.Proofs.YtomgliinndfliaaW.PrintWords
/-! ### impl_panels -/
theorem impl_panels.j0_mono (x1 : Int) (x26 : Bool) (x1747000 : Int) (x1747001 : Int) (x1747002 : Int) : Mono (fun k => impl_panels.j0 k x1 x26 x1747000 x1747001 x1747002) := (fun k => (impl_panels.mono_l k) x1 x26 x1747000 x1747001 x1747002)
noncomputable def impl_panels.j0v (x1 : Int) (x26 : Bool) (x1747000 : Int) (x1747001 : Int) (x1747002 : Int) : Option (Int × Int × Int) := lim (fun k => impl_panels.j0 k x1 x26 x1747000 x1747001 x1747002)
theorem impl_panels.j0_lim (x1 : Int) (x26 : Bool) (x1747000 : Int) (x1747001 : Int) (x1747002 : Int) : Lim (fun k => impl_panels.j0 k x1 x26 x1747000 x1747001 x1747002) (impl_panels.j0v x1 x26 x1747000 x1747001 x1747002) := lim_Lim (impl_panels.j0_mono x1 x26 x1747000 x1747001 x1747002)
theorem impl_panels.f_mono (a0_0 : Int) (a0_1 : Int) (a0_2 : Int) (a0_3 : Int) (l0_4 : List Int) (a1 : Int) (a2 : Bool) : Mono (fun k => impl_panels.f k a0_0 a0_1 a0_2 a0_3 l0_4 a1 a2) := (fun k => impl_panels.mono a0_0 a0_1 a0_2 a0_3 l0_4 a1 a2 k)
noncomputable def impl_panels.fv (a0_0 : Int) (a0_1 : Int) (a0_2 : Int) (a0_3 : Int) (l0_4 : List Int) (a1 : Int) (a2 : Bool) : Option (Int × Int × Int) := lim (fun k => impl_panels.f k a0_0 a0_1 a0_2 a0_3 l0_4 a1 a2)
theorem impl_panels.f_lim (a0_0 : Int) (a0_1 : Int) (a0_2 : Int) (a0_3 : Int) (l0_4 : List Int) (a1 : Int) (a2 : Bool) : Lim (fun k => impl_panels.f k a0_0 a0_1 a0_2 a0_3 l0_4 a1 a2) (impl_panels.fv a0_0 a0_1 a0_2 a0_3 l0_4 a1 a2) := lim_Lim (impl_panels.f_mono a0_0 a0_1 a0_2 a0_3 l0_4 a1 a2)
theorem impl_panels.j0v_eq (x1 : Int) (x26 : Bool) (x1747000 : Int) (x1747001 : Int) (x1747002 : Int) : impl_panels.j0v x1 x26 x1747000 x1747001 x1747002 = if x26 = true then (some (0, 0, 2)) else ((impl_Lattice_drop.fv x1747000 x1747001 x1747002 x1).bind fun t1748 => (if t1748 < 0 then (some (0, 0, 4)) else ((impl_Lattice_repeat.fv x1747000 x1747001 x1747002).bind fun t1749 => (some (t1749, t1748, 0))))) := by
  refine lim_step (impl_panels.j0_mono x1 x26 x1747000 x1747001 x1747002) (fun k => by rw [impl_panels.j0]) (f := fun k => if x26 = true then (some (0, 0, 2)) else ((impl_Lattice_drop.f k x1747000 x1747001 x1747002 x1).bind fun t1748 => (if t1748 < 0 then (some (0, 0, 4)) else ((impl_Lattice_repeat.f k x1747000 x1747001 x1747002).bind fun t1749 => (some (t1749, t1748, 0)))))) ?_
  repeat' first
    | (with_reducible exact impl_Lattice_drop.f_lim _ _ _ _)
    | (with_reducible exact impl_Lattice_repeat.f_lim _ _ _)
    | exact Lim.const _
    | refine Lim.ite ?_ ?_
    | refine Lim.bind ?_ (fun _ => ?_)
theorem impl_panels.fv_eq (a0_0 : Int) (a0_1 : Int) (a0_2 : Int) (a0_3 : Int) (l0_4 : List Int) (a1 : Int) (a2 : Bool) : impl_panels.fv a0_0 a0_1 a0_2 a0_3 l0_4 a1 a2 = (impl_rollLattice.fv a0_0 a0_1 a0_2 a0_3 l0_4).bind fun bt1742 => (if bt1742.2.2.2 = 0 then ((impl_isRoll.f a1).bind fun t1747 => (if t1747 = true then (impl_panels.j0v a1 (!a2) bt1742.1 bt1742.2.1 bt1742.2.2.1) else (impl_panels.j0v a1 true bt1742.1 bt1742.2.1 bt1742.2.2.1))) else (some (0, 0, bt1742.2.2.2))) := by
  refine lim_now (fun k => rfl) (f := fun k => (impl_rollLattice.f k a0_0 a0_1 a0_2 a0_3 l0_4).bind fun bt1742 => (if bt1742.2.2.2 = 0 then ((impl_isRoll.f a1).bind fun t1747 => (if t1747 = true then (impl_panels.j0 k a1 (!a2) bt1742.1 bt1742.2.1 bt1742.2.2.1) else (impl_panels.j0 k a1 true bt1742.1 bt1742.2.1 bt1742.2.2.1))) else (some (0, 0, bt1742.2.2.2)))) ?_
  repeat' first
    | (with_reducible exact impl_panels.j0_lim _ _ _ _ _)
    | (with_reducible exact impl_rollLattice.f_lim _ _ _ _ _)
    | exact Lim.const _
    | refine Lim.ite ?_ ?_
    | refine Lim.bind ?_ (fun _ => ?_)

open Go.Proofs.YtomgliinndfliaaW.PrintWords
/-! ### spec_l24Starts -/
theorem spec_l24Starts.l0_mono (x0 : Int) (x1 : Int) (x2 : Int) (x3 : Int) (x9 : List Int) (x10 : Int) : Mono (fun k => spec_l24Starts.l0 k x0 x1 x2 x3 x9 x10) := (fun k => (spec_l24Starts.mono_l k) x0 x1 x2 x3 x9 x10)
noncomputable def spec_l24Starts.l0v (x0 : Int) (x1 : Int) (x2 : Int) (x3 : Int) (x9 : List Int) (x10 : Int) : Option (List Int) := lim (fun k => spec_l24Starts.l0 k x0 x1 x2 x3 x9 x10)
theorem spec_l24Starts.l0_lim (x0 : Int) (x1 : Int) (x2 : Int) (x3 : Int) (x9 : List Int) (x10 : Int) : Lim (fun k => spec_l24Starts.l0 k x0 x1 x2 x3 x9 x10) (spec_l24Starts.l0v x0 x1 x2 x3 x9 x10) := lim_Lim (spec_l24Starts.l0_mono x0 x1 x2 x3 x9 x10)
theorem spec_l24Starts.f_mono (a0 : Int) (a1 : Int) (a2 : Int) (a3 : Int) : Mono (fun k => spec_l24Starts.f k a0 a1 a2 a3) := (fun k => spec_l24Starts.mono a0 a1 a2 a3 k)
noncomputable def spec_l24Starts.fv (a0 : Int) (a1 : Int) (a2 : Int) (a3 : Int) : Option (List Int) := lim (fun k => spec_l24Starts.f k a0 a1 a2 a3)
theorem spec_l24Starts.f_lim (a0 : Int) (a1 : Int) (a2 : Int) (a3 : Int) : Lim (fun k => spec_l24Starts.f k a0 a1 a2 a3) (spec_l24Starts.fv a0 a1 a2 a3) := lim_Lim (spec_l24Starts.f_mono a0 a1 a2 a3)
theorem spec_l24Starts.l0v_eq (x0 : Int) (x1 : Int) (x2 : Int) (x3 : Int) (x9 : List Int) (x10 : Int) : spec_l24Starts.l0v x0 x1 x2 x3 x9 x10 = if x10 < x3 then (if 0 ≤ (wrap64 (x10 - 1)) then (if (wrap64 (x10 - 1)) < (x9.length : Int) then ((spec_l01Mod.f (wrap64 ((wrap64 (x10 * x1)) - (wrap64 ((rd x9 (wrap64 (x10 - 1))) + x2)))) x0).bind fun t1787 => (if x9.length < 17592186044416 then (spec_l24Starts.l0v x0 x1 x2 x3 (x9 ++ [wrap64 ((wrap64 ((rd x9 (wrap64 (x10 - 1))) + x2)) + t1787)]) (wrap64 (x10 + 1))) else (none))) else (none)) else (none)) else (some x9) := by
  refine lim_step (spec_l24Starts.l0_mono x0 x1 x2 x3 x9 x10) (fun k => by rw [spec_l24Starts.l0]) (f := fun k => if x10 < x3 then (if 0 ≤ (wrap64 (x10 - 1)) then (if (wrap64 (x10 - 1)) < (x9.length : Int) then ((spec_l01Mod.f (wrap64 ((wrap64 (x10 * x1)) - (wrap64 ((rd x9 (wrap64 (x10 - 1))) + x2)))) x0).bind fun t1787 => (if x9.length < 17592186044416 then (spec_l24Starts.l0 k x0 x1 x2 x3 (x9 ++ [wrap64 ((wrap64 ((rd x9 (wrap64 (x10 - 1))) + x2)) + t1787)]) (wrap64 (x10 + 1))) else (none))) else (none)) else (none)) else (some x9)) ?_
  repeat' first
    | (with_reducible exact spec_l24Starts.l0_lim _ _ _ _ _ _)
    | exact Lim.const _
    | refine Lim.ite ?_ ?_
    | refine Lim.bind ?_ (fun _ => ?_)
theorem spec_l24Starts.fv_eq (a0 : Int) (a1 : Int) (a2 : Int) (a3 : Int) : spec_l24Starts.fv a0 a1 a2 a3 = spec_l24Starts.l0v a0 a1 a2 a3 (([0] : List Int)) 1 := by
  refine lim_now (fun k => rfl) (f := fun k => spec_l24Starts.l0 k a0 a1 a2 a3 (([0] : List Int)) 1) ?_
  repeat' first
    | (with_reducible exact spec_l24Starts.l0_lim _ _ _ _ _ _)
    | exact Lim.const _
    | refine Lim.ite ?_ ?_
    | refine Lim.bind ?_ (fun _ => ?_)

open Go.Proofs.YtomgliinndfliaaW.PrintWords
/-! ### impl_DropOf -/
theorem impl_DropOf.f_mono (a0_0 : Int) (a0_1 : Int) (a0_2 : Int) (a0_3 : Int) (l0_4 : List Int) (a1 : Int) : Mono (fun k => impl_DropOf.f k a0_0 a0_1 a0_2 a0_3 l0_4 a1) := (fun k => impl_DropOf.mono a0_0 a0_1 a0_2 a0_3 l0_4 a1 k)
noncomputable def impl_DropOf.fv (a0_0 : Int) (a0_1 : Int) (a0_2 : Int) (a0_3 : Int) (l0_4 : List Int) (a1 : Int) : Option (Int × Int) := lim (fun k => impl_DropOf.f k a0_0 a0_1 a0_2 a0_3 l0_4 a1)
theorem impl_DropOf.f_lim (a0_0 : Int) (a0_1 : Int) (a0_2 : Int) (a0_3 : Int) (l0_4 : List Int) (a1 : Int) : Lim (fun k => impl_DropOf.f k a0_0 a0_1 a0_2 a0_3 l0_4 a1) (impl_DropOf.fv a0_0 a0_1 a0_2 a0_3 l0_4 a1) := lim_Lim (impl_DropOf.f_mono a0_0 a0_1 a0_2 a0_3 l0_4 a1)
theorem impl_DropOf.fv_eq (a0_0 : Int) (a0_1 : Int) (a0_2 : Int) (a0_3 : Int) (l0_4 : List Int) (a1 : Int) : impl_DropOf.fv a0_0 a0_1 a0_2 a0_3 l0_4 a1 = (impl_panels.fv a0_0 a0_1 a0_2 a0_3 l0_4 a1 true).bind fun bt1751 => (some (bt1751.2.1, bt1751.2.2)) := by
  refine lim_now (fun k => rfl) (f := fun k => (impl_panels.f k a0_0 a0_1 a0_2 a0_3 l0_4 a1 true).bind fun bt1751 => (some (bt1751.2.1, bt1751.2.2))) ?_
  repeat' first
    | (with_reducible exact impl_panels.f_lim _ _ _ _ _ _ _)
    | exact Lim.const _
    | refine Lim.ite ?_ ?_
    | refine Lim.bind ?_ (fun _ => ?_)

open Go.Proofs.YtomgliinndfliaaW.PrintWords
/-! ### spec_DropOf -/
theorem spec_DropOf.f_mono (a0_0 : Int) (a0_1 : Int) (a0_2 : Int) (a0_3 : Int) (l0_4 : List Int) (a1 : Int) : Mono (fun k => spec_DropOf.f k a0_0 a0_1 a0_2 a0_3 l0_4 a1) := (fun k => spec_DropOf.mono a0_0 a0_1 a0_2 a0_3 l0_4 a1 k)
noncomputable def spec_DropOf.fv (a0_0 : Int) (a0_1 : Int) (a0_2 : Int) (a0_3 : Int) (l0_4 : List Int) (a1 : Int) : Option (Int × Int) := lim (fun k => spec_DropOf.f k a0_0 a0_1 a0_2 a0_3 l0_4 a1)
theorem spec_DropOf.f_lim (a0_0 : Int) (a0_1 : Int) (a0_2 : Int) (a0_3 : Int) (l0_4 : List Int) (a1 : Int) : Lim (fun k => spec_DropOf.f k a0_0 a0_1 a0_2 a0_3 l0_4 a1) (spec_DropOf.fv a0_0 a0_1 a0_2 a0_3 l0_4 a1) := lim_Lim (spec_DropOf.f_mono a0_0 a0_1 a0_2 a0_3 l0_4 a1)
theorem spec_DropOf.fv_eq (a0_0 : Int) (a0_1 : Int) (a0_2 : Int) (a0_3 : Int) (l0_4 : List Int) (a1 : Int) : spec_DropOf.fv a0_0 a0_1 a0_2 a0_3 l0_4 a1 = (spec_l01In.f a1 1 1000).bind fun t1733 => ((spec_l24Code.fv a0_0 a0_1 a0_2 a0_3 l0_4 t1733).bind fun bt1734 => (if bt1734.2.2.2 = 0 then ((spec_l24Drop.fv bt1734.1 bt1734.2.1 bt1734.2.2.1 a1).bind fun bt1739 => (if bt1739.2 = true then (some (bt1739.1, 0)) else (some (0, 4)))) else (some (0, bt1734.2.2.2)))) := by
  refine lim_now (fun k => rfl) (f := fun k => (spec_l01In.f a1 1 1000).bind fun t1733 => ((spec_l24Code.f k a0_0 a0_1 a0_2 a0_3 l0_4 t1733).bind fun bt1734 => (if bt1734.2.2.2 = 0 then ((spec_l24Drop.f k bt1734.1 bt1734.2.1 bt1734.2.2.1 a1).bind fun bt1739 => (if bt1739.2 = true then (some (bt1739.1, 0)) else (some (0, 4)))) else (some (0, bt1734.2.2.2))))) ?_
  repeat' first
    | (with_reducible exact spec_l24Code.f_lim _ _ _ _ _ _)
    | (with_reducible exact spec_l24Drop.f_lim _ _ _ _)
    | exact Lim.const _
    | refine Lim.ite ?_ ?_
    | refine Lim.bind ?_ (fun _ => ?_)

open Go.Proofs.YtomgliinndfliaaW.PrintWords
/-! ### laws_FnExactDropOf -/
theorem laws_FnExactDropOf.f_mono (a0_0 : Int) (a0_1 : Int) (a0_2 : Int) (a0_3 : Int) (l0_4 : List Int) (a1 : Int) : Mono (fun k => laws_FnExactDropOf.f k a0_0 a0_1 a0_2 a0_3 l0_4 a1) := (fun k => laws_FnExactDropOf.mono a0_0 a0_1 a0_2 a0_3 l0_4 a1 k)
noncomputable def laws_FnExactDropOf.fv (a0_0 : Int) (a0_1 : Int) (a0_2 : Int) (a0_3 : Int) (l0_4 : List Int) (a1 : Int) : Option (Bool) := lim (fun k => laws_FnExactDropOf.f k a0_0 a0_1 a0_2 a0_3 l0_4 a1)
theorem laws_FnExactDropOf.f_lim (a0_0 : Int) (a0_1 : Int) (a0_2 : Int) (a0_3 : Int) (l0_4 : List Int) (a1 : Int) : Lim (fun k => laws_FnExactDropOf.f k a0_0 a0_1 a0_2 a0_3 l0_4 a1) (laws_FnExactDropOf.fv a0_0 a0_1 a0_2 a0_3 l0_4 a1) := lim_Lim (laws_FnExactDropOf.f_mono a0_0 a0_1 a0_2 a0_3 l0_4 a1)
theorem laws_FnExactDropOf.fv_eq (a0_0 : Int) (a0_1 : Int) (a0_2 : Int) (a0_3 : Int) (l0_4 : List Int) (a1 : Int) : laws_FnExactDropOf.fv a0_0 a0_1 a0_2 a0_3 l0_4 a1 = (laws_szPattern.f a0_0 a0_1 a0_2 a0_3 l0_4 1048576).bind fun t1755 => (if t1755 < 0 then (some true) else ((laws_toPattern.fv a0_0 a0_1 a0_2 a0_3 l0_4).bind fun bt1756 => ((spec_DropOf.fv bt1756.1 bt1756.2.1 bt1756.2.2.1 bt1756.2.2.2.1 bt1756.2.2.2.2 a1).bind fun bt1763 => ((laws_toPattern.fv a0_0 a0_1 a0_2 a0_3 l0_4).bind fun bt1765 => ((impl_DropOf.fv bt1765.1 bt1765.2.1 bt1765.2.2.1 bt1765.2.2.2.1 bt1765.2.2.2.2 a1).bind fun bt1773 => (if bt1773.1 = bt1763.1 then (if bt1773.2 = bt1763.2 then ((laws_toPattern.fv a0_0 a0_1 a0_2 a0_3 l0_4).bind fun bt1775 => ((laws_eqPattern.fv bt1765.1 bt1765.2.1 bt1765.2.2.1 bt1765.2.2.2.1 bt1765.2.2.2.2 bt1775.1 bt1775.2.1 bt1775.2.2.1 bt1775.2.2.2.1 bt1775.2.2.2.2).bind fun t1782 => (if t1782 = true then (some true) else (none)))) else (none)) else (none))))))) := by
  refine lim_now (fun k => rfl) (f := fun k => (laws_szPattern.f a0_0 a0_1 a0_2 a0_3 l0_4 1048576).bind fun t1755 => (if t1755 < 0 then (some true) else ((laws_toPattern.f k a0_0 a0_1 a0_2 a0_3 l0_4).bind fun bt1756 => ((spec_DropOf.f k bt1756.1 bt1756.2.1 bt1756.2.2.1 bt1756.2.2.2.1 bt1756.2.2.2.2 a1).bind fun bt1763 => ((laws_toPattern.f k a0_0 a0_1 a0_2 a0_3 l0_4).bind fun bt1765 => ((impl_DropOf.f k bt1765.1 bt1765.2.1 bt1765.2.2.1 bt1765.2.2.2.1 bt1765.2.2.2.2 a1).bind fun bt1773 => (if bt1773.1 = bt1763.1 then (if bt1773.2 = bt1763.2 then ((laws_toPattern.f k a0_0 a0_1 a0_2 a0_3 l0_4).bind fun bt1775 => ((laws_eqPattern.f k bt1765.1 bt1765.2.1 bt1765.2.2.1 bt1765.2.2.2.1 bt1765.2.2.2.2 bt1775.1 bt1775.2.1 bt1775.2.2.1 bt1775.2.2.2.1 bt1775.2.2.2.2).bind fun t1782 => (if t1782 = true then (some true) else (none)))) else (none)) else (none)))))))) ?_
  repeat' first
    | (with_reducible exact impl_DropOf.f_lim _ _ _ _ _ _)
    | (with_reducible exact laws_eqPattern.f_lim _ _ _ _ _ _ _ _ _ _)
    | (with_reducible exact laws_toPattern.f_lim _ _ _ _ _)
    | (with_reducible exact spec_DropOf.f_lim _ _ _ _ _ _)
    | exact Lim.const _
    | refine Lim.ite ?_ ?_
    | refine Lim.bind ?_ (fun _ => ?_)
end Go.Proofs.Ytomgliinndfliaa.X
