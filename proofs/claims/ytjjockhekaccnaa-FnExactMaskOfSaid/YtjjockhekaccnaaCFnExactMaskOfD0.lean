/- Part of the proof of the law FnExactMaskOf: the functions that the code computes. No condition of its own. -/
import Derived.Test.YtjjockhekaccnaaProg
import Derived.Below
import Derived.Deep.Draws
import Derived.Deep.AppendLies
import Derived.Maps.AppendAt
import Derived.OwnWalk
import Derived.Laws.BytesArg
import Derived.Laws.MakeOwn
import Derived.Laws.OwnMore
import Derived.Deep.OwnRows
import Derived.Tactics
import Derived.Lib.ConvBytes
import Derived.Laws.Slices
import Derived.WalkKit
import Derived.KernelRfl
import Derived.RowKit3
import Derived.Deep.LoopGhost
import Derived.Deep.QuietTactic
import Derived.BigQuiet
import Derived.WideLaws
import Derived.Deep.DeepCutAuto
import Derived.Deep.CutBlock
import Derived.Deep.RegionHeld3
import Derived.Laws.Rows
import Derived.Lib.AppendStr
import Derived.ArgAppend
import Derived.Laws.IdiomCopy
import Derived.OrdersHeld
import Derived.Laws.BitsLemmas
import Derived.RowKit
import Derived.Test.YtjjockhekaccnaaWWords
import Derived.Test.YtjjockhekaccnaaWLast
import Derived.Test.YtjjockhekaccnaaWTab
import Derived.Test.YtjjockhekaccnaaWFour
import Derived.Test.YtjjockhekaccnaaWQPut
import Derived.Test.YtjjockhekaccnaaWApart
import Derived.Test.YtjjockhekaccnaaWArr
import Derived.Test.YtjjockhekaccnaaWZeros
import Derived.Test.YtjjockhekaccnaaWFoot
import Derived.Test.YtjjockhekaccnaaWKept
import Derived.Test.YtjjockhekaccnaaWShare
import Derived.Test.YtjjockhekaccnaaWN
import Derived.Test.YtjjockhekaccnaaWFootNe
import Derived.Test.YtjjockhekaccnaaWAt
import Derived.Test.YtjjockhekaccnaaWEqStruct
import Derived.Test.YtjjockhekaccnaaWRepsOne
import Derived.Test.YtjjockhekaccnaaWInv
import Derived.Test.YtjjockhekaccnaaWInvWords
import Derived.Test.YtjjockhekaccnaaWGuard
import Derived.Test.YtjjockhekaccnaaWNEv
import Derived.Test.YtjjockhekaccnaaWMore
namespace Go.Proofs.Ytjjockhekaccnaa.X
open Go.RowKit Go.Proofs.YtjjockhekaccnaaW.PrintWords Go.Proofs.YtjjockhekaccnaaW.PrintLast Go.Proofs.YtjjockhekaccnaaW.PrintMore
attribute [local go_sem] max2_int min2_int max_two min_two max_three min_three max_four min_four   -- for this text's walks alone
set_option linter.unusedVariables false
set_option linter.unusedSimpArgs false



def errW : Option Int → Value
  | none => .nilIface
  | some c => .iface 0 (.int .i64 c)
theorem errW_none : errW none = .nilIface := rfl
theorem errW_some (c : Int) : errW (some c) = .iface 0 (.int .i64 c) := rfl

theorem info2 : (Try.prog.info? 2).map (fun i => (i.zero, i.size, i.bytes)) = some (some (.int .i64 0), 1, 8) := by kernel_rfl
theorem info9 : (Try.prog.info? 9).map (fun i => (i.zero, i.size, i.bytes)) = some (some (.string ⟨#[]⟩), 1, 16) := by kernel_rfl
theorem info36 : (Try.prog.info? 36).map (fun i => (i.zero, i.size, i.bytes)) = some (some (.agg #[(.bool false), (.bool false), (.int .i64 0)]), 3, 16) := by kernel_rfl
theorem info121 : (Try.prog.info? 121).map (fun i => (i.zero, i.size, i.bytes)) = some (some (.agg #[(.int .i64 0), (.int .i64 0)]), 2, 16) := by kernel_rfl
-- the values' own types
def rd_L1 (xs : List (List Int)) (i : Int) : (List Int) := xs.getD i.toNat ([] : List Int)
theorem at_L1 {w : World} {A : Option Addr} {n : Nat} {xs : List (List Int)} (h : Kd.C (Kd.slice 2 (Kd.int .i64)) w A n xs) (i : Int) (h0 : 0 ≤ i) (h1 : i < n) : ∃ ad A0 c0, A = some ad ∧ w.cell? (ad.add i.toNat) = some (.slice A0 (rd_L1 xs i).length c0) ∧ (rd_L1 xs i).length ≤ c0 ∧ (Kd.int .i64).C w A0 (rd_L1 xs i).length (rd_L1 xs i) := by
  obtain ⟨ad, c, e, _, hK, hc0⟩ := Kd.C_get h ([] : List Int) i h0 h1
  have hc : ∀ j u, c[j]? = some u → w.cell? (ad.add (i.toNat * 1 + j)) = some u := hc0
  obtain ⟨A0, c0, rfl, l0, g0⟩ := hK
  exact ⟨ad, A0, c0, e, by have hq := hc 0 _ rfl; rwa [Nat.mul_one, Nat.add_zero] at hq, l0, g0⟩

/-! #### struct type 36 -/
structure S36 where
  f0 : Bool
  f1 : Bool
  f2 : Int
def z36 : S36 := ⟨false, false, (0 : Int)⟩
def k36 : Kd S36 := Kd.iso (Kd.pair Kd.bool (Kd.pair Kd.bool (Kd.int .i64))) (fun x : S36 => (x.f0, x.f1, x.f2))
theorem k36_open {w : World} {x : S36} {cs : List Value} (h : k36.K w x cs) : cs = [.bool x.f0, .bool x.f1, .int .i64 x.f2] := by
  obtain ⟨_, _, rfl, rfl, ⟨_, _, rfl, rfl, rfl⟩⟩ := h
  exact rfl
theorem k36_openM {w : World} {base : Nat} {ok : Nat → Prop} {x : S36} {cs : List Value} (h : k36.M w base ok x cs) : cs = [.bool x.f0, .bool x.f1, .int .i64 x.f2] := by
  obtain ⟨_, _, rfl, rfl, ⟨_, _, rfl, rfl, rfl⟩⟩ := h
  exact rfl
theorem k36_mk (w : World) (x : S36)  : k36.K w x [.bool x.f0, .bool x.f1, .int .i64 x.f2] := ⟨[.bool x.f0], [.bool x.f1, .int .i64 x.f2], rfl, rfl, ⟨[.bool x.f1], [.int .i64 x.f2], rfl, rfl, rfl⟩⟩
theorem k36_mkM (w : World) (base : Nat) (ok : Nat → Prop) (x : S36)  : k36.M w base ok x [.bool x.f0, .bool x.f1, .int .i64 x.f2] := ⟨[.bool x.f0], [.bool x.f1, .int .i64 x.f2], rfl, rfl, ⟨[.bool x.f1], [.int .i64 x.f2], rfl, rfl, rfl⟩⟩
def rd_T36 (xs : List S36) (i : Int) : S36 := xs.getD i.toNat z36
theorem at_T36 {w : World} {A : Option Addr} {n : Nat} {xs : List S36} (h : Kd.C k36 w A n xs) (i : Int) (h0 : 0 ≤ i) (h1 : i < n) : ∃ ad , A = some ad ∧ w.cell? (ad.add (i.toNat * 3)) = some (.bool (rd_T36 xs i).f0) ∧ w.cell? ⟨(ad.add (i.toNat * 3)).block, (ad.add (i.toNat * 3)).off + 1, none⟩ = some (.bool (rd_T36 xs i).f1) ∧ w.cell? ⟨(ad.add (i.toNat * 3)).block, (ad.add (i.toNat * 3)).off + 2, none⟩ = some (.int .i64 (rd_T36 xs i).f2) := by
  obtain ⟨ad, c, e, _, hK, hc0⟩ := Kd.C_get h z36 i h0 h1
  have hc : ∀ j u, c[j]? = some u → w.cell? (ad.add (i.toNat * 3 + j)) = some u := hc0
  obtain rfl := k36_open hK
  exact ⟨ad, e, hc 0 _ rfl, by rw [← add_field _ _ 1 (by omega)]; exact hc 1 _ rfl, by rw [← add_field _ _ 2 (by omega)]; exact hc 2 _ rfl⟩

/-! #### struct type 121 -/
structure S121 where
  f0 : Int
  f1 : Int
def z121 : S121 := ⟨(0 : Int), (0 : Int)⟩
def k121 : Kd S121 := Kd.iso (Kd.pair (Kd.int .i64) (Kd.int .i64)) (fun x : S121 => (x.f0, x.f1))
theorem k121_open {w : World} {x : S121} {cs : List Value} (h : k121.K w x cs) : cs = [.int .i64 x.f0, .int .i64 x.f1] := by
  obtain ⟨_, _, rfl, rfl, rfl⟩ := h
  exact rfl
theorem k121_openM {w : World} {base : Nat} {ok : Nat → Prop} {x : S121} {cs : List Value} (h : k121.M w base ok x cs) : cs = [.int .i64 x.f0, .int .i64 x.f1] := by
  obtain ⟨_, _, rfl, rfl, rfl⟩ := h
  exact rfl
theorem k121_mk (w : World) (x : S121)  : k121.K w x [.int .i64 x.f0, .int .i64 x.f1] := ⟨[.int .i64 x.f0], [.int .i64 x.f1], rfl, rfl, rfl⟩
theorem k121_mkM (w : World) (base : Nat) (ok : Nat → Prop) (x : S121)  : k121.M w base ok x [.int .i64 x.f0, .int .i64 x.f1] := ⟨[.int .i64 x.f0], [.int .i64 x.f1], rfl, rfl, rfl⟩
def rd_T121 (xs : List S121) (i : Int) : S121 := xs.getD i.toNat z121
theorem at_T121 {w : World} {A : Option Addr} {n : Nat} {xs : List S121} (h : Kd.C k121 w A n xs) (i : Int) (h0 : 0 ≤ i) (h1 : i < n) : ∃ ad , A = some ad ∧ w.cell? (ad.add (i.toNat * 2)) = some (.int .i64 (rd_T121 xs i).f0) ∧ w.cell? ⟨(ad.add (i.toNat * 2)).block, (ad.add (i.toNat * 2)).off + 1, none⟩ = some (.int .i64 (rd_T121 xs i).f1) := by
  obtain ⟨ad, c, e, _, hK, hc0⟩ := Kd.C_get h z121 i h0 h1
  have hc : ∀ j u, c[j]? = some u → w.cell? (ad.add (i.toNat * 2 + j)) = some u := hc0
  obtain rfl := k121_open hK
  exact ⟨ad, e, hc 0 _ rfl, by rw [← add_field _ _ 1 (by omega)]; exact hc 1 _ rfl⟩

end Go.Proofs.Ytjjockhekaccnaa.X
namespace Go.Proofs.Ytjjockhekaccnaa.X
open Go.RowKit Go.Proofs.YtjjockhekaccnaaW.PrintWords Go.Proofs.YtjjockhekaccnaaW.PrintLast Go.Proofs.YtjjockhekaccnaaW.PrintMore
attribute [local go_sem] max2_int min2_int max_two min_two max_three min_three max_four min_four   -- for this text's walks alone
set_option linter.unusedVariables false
set_option linter.unusedSimpArgs false

/-! ### laws_szInt64S: function 60 -/
def laws_szInt64S.f (l0 : List Int) (a1 : Int) : Option (Int) := if (wrap64 (a1 - (l0.length : Int))) < 0 then (some (-1)) else (some (wrap64 (a1 - (l0.length : Int))))

end Go.Proofs.Ytjjockhekaccnaa.X
namespace Go.Proofs.Ytjjockhekaccnaa.X
open Go.RowKit Go.Proofs.YtjjockhekaccnaaW.PrintWords Go.Proofs.YtjjockhekaccnaaW.PrintLast Go.Proofs.YtjjockhekaccnaaW.PrintMore
attribute [local go_sem] max2_int min2_int max_two min_two max_three min_three max_four min_four   -- for this text's walks alone
set_option linter.unusedVariables false
set_option linter.unusedSimpArgs false

/-! ### laws_szPattern: function 49 -/
def laws_szPattern.f (a0_0 : Int) (a0_1 : Int) (a0_2 : Int) (a0_3 : Int) (l0_4 : List Int) (a1 : Int) : Option (Int) := (laws_szInt64S.f l0_4 a1).bind fun t933 => (if t933 < 0 then (some (-1)) else (some t933))

end Go.Proofs.Ytjjockhekaccnaa.X
namespace Go.Proofs.Ytjjockhekaccnaa.X
open Go.RowKit Go.Proofs.YtjjockhekaccnaaW.PrintWords Go.Proofs.YtjjockhekaccnaaW.PrintLast Go.Proofs.YtjjockhekaccnaaW.PrintMore
attribute [local go_sem] max2_int min2_int max_two min_two max_three min_three max_four min_four   -- for this text's walks alone
set_option linter.unusedVariables false
set_option linter.unusedSimpArgs false

/-! ### laws_toInt64S: function 62 -/
def laws_toInt64S.l0 : Nat → List Int → List Int → Int → Option (List Int)
  | 0, _, _, _ => none
  | k + 1, x0, x3, x4 => if x4 < (x0.length : Int) then (if 0 ≤ x4 then (if x4 < (x3.length : Int) then (laws_toInt64S.l0 k x0 (x3.set (x4 : Int).toNat (rd x0 x4)) (wrap64 (x4 + 1))) else (none)) else (none)) else (some x3)
def laws_toInt64S.f (k : Nat) (l0 : List Int) : Option (List Int) := if 0 ≤ (l0.length : Int) then (if ((l0.length : Int) : Int).toNat ≤ 35184372088832 then (laws_toInt64S.l0 k l0 (List.replicate ((l0.length : Int) : Int).toNat 0) 0) else (none)) else (none)
theorem laws_toInt64S.mono_l : ∀ k, (∀ y0 y1 y2, LeO (laws_toInt64S.l0 k y0 y1 y2) (laws_toInt64S.l0 (k + 1) y0 y1 y2))
  | 0 => fun _ _ _ r h => by simp [laws_toInt64S.l0] at h
  | k + 1 => by
    have ih0 := laws_toInt64S.mono_l k
    · intro y0 y1 y2
      unfold laws_toInt64S.l0
      repeat' first
      | (with_reducible exact ih0 _ _ _)
      | (with_reducible exact LeO.refl _)
      | (with_reducible exact LeO.none _)
      | (with_reducible refine LeO.ite ?_ ?_)
      | (with_reducible refine LeO.bind ?_ (fun _ => ?_))
      | exact ih0 _ _ _
      | exact LeO.none _
      | refine LeO.ite ?_ ?_
      | refine LeO.bind ?_ (fun _ => ?_)
theorem laws_toInt64S.mono : ∀ a0 k, LeO (laws_toInt64S.f k a0) (laws_toInt64S.f (k + 1) a0) := by
  intro a0 k
  have ih0 := laws_toInt64S.mono_l k
  unfold laws_toInt64S.f
  repeat' first
      | (with_reducible exact ih0 _ _ _)
      | (with_reducible exact LeO.refl _)
      | (with_reducible exact LeO.none _)
      | (with_reducible refine LeO.ite ?_ ?_)
      | (with_reducible refine LeO.bind ?_ (fun _ => ?_))
      | exact ih0 _ _ _
      | exact LeO.none _
      | refine LeO.ite ?_ ?_
      | refine LeO.bind ?_ (fun _ => ?_)

end Go.Proofs.Ytjjockhekaccnaa.X
namespace Go.Proofs.Ytjjockhekaccnaa.X
open Go.RowKit Go.Proofs.YtjjockhekaccnaaW.PrintWords Go.Proofs.YtjjockhekaccnaaW.PrintLast Go.Proofs.YtjjockhekaccnaaW.PrintMore
attribute [local go_sem] max2_int min2_int max_two min_two max_three min_three max_four min_four   -- for this text's walks alone
set_option linter.unusedVariables false
set_option linter.unusedSimpArgs false

/-! ### laws_toLattice: function 91 -/
def laws_toLattice.f (a0_0 : Int) (a0_1 : Int) (a0_2 : Int) : Option (Int × Int × Int) := some (a0_0, a0_1, a0_2)

end Go.Proofs.Ytjjockhekaccnaa.X
namespace Go.Proofs.Ytjjockhekaccnaa.X
open Go.RowKit Go.Proofs.YtjjockhekaccnaaW.PrintWords Go.Proofs.YtjjockhekaccnaaW.PrintLast Go.Proofs.YtjjockhekaccnaaW.PrintMore
attribute [local go_sem] max2_int min2_int max_two min_two max_three min_three max_four min_four   -- for this text's walks alone
set_option linter.unusedVariables false
set_option linter.unusedSimpArgs false

/-! ### laws_toPattern: function 51 -/
def laws_toPattern.f (k : Nat) (a0_0 : Int) (a0_1 : Int) (a0_2 : Int) (a0_3 : Int) (l0_4 : List Int) : Option (Int × Int × Int × Int × List Int) := (laws_toLattice.f a0_1 a0_2 a0_3).bind fun bt956 => ((laws_toInt64S.f k l0_4).bind fun t959 => (some (a0_0, bt956.1, bt956.2.1, bt956.2.2, t959)))
theorem laws_toPattern.mono : ∀ a0 a1 a2 a3 a4 k, LeO (laws_toPattern.f k a0 a1 a2 a3 a4) (laws_toPattern.f (k + 1) a0 a1 a2 a3 a4) := by
  intro a0 a1 a2 a3 a4 k
  unfold laws_toPattern.f
  repeat' first
      | (with_reducible exact laws_toInt64S.mono _ _)
      | (with_reducible exact LeO.refl _)
      | (with_reducible exact LeO.none _)
      | (with_reducible refine LeO.ite ?_ ?_)
      | (with_reducible refine LeO.bind ?_ (fun _ => ?_))
      | exact laws_toInt64S.mono _ _
      | exact LeO.none _
      | refine LeO.ite ?_ ?_
      | refine LeO.bind ?_ (fun _ => ?_)

end Go.Proofs.Ytjjockhekaccnaa.X
namespace Go.Proofs.Ytjjockhekaccnaa.X
open Go.RowKit Go.Proofs.YtjjockhekaccnaaW.PrintWords Go.Proofs.YtjjockhekaccnaaW.PrintLast Go.Proofs.YtjjockhekaccnaaW.PrintMore
attribute [local go_sem] max2_int min2_int max_two min_two max_three min_three max_four min_four   -- for this text's walks alone
set_option linter.unusedVariables false
set_option linter.unusedSimpArgs false

/-! ### laws_eqInt64S: function 64 -/
def laws_eqInt64S.l0 : Nat → List Int → List Int → Int → Option (Bool)
  | 0, _, _, _ => none
  | k + 1, x0, x1, x5 => if x5 < (x0.length : Int) then (if 0 ≤ x5 then (if x5 < (x1.length : Int) then (if (rd x0 x5) = (rd x1 x5) then (laws_eqInt64S.l0 k x0 x1 (wrap64 (x5 + 1))) else (some false)) else (none)) else (none)) else (some true)
def laws_eqInt64S.f (k : Nat) (l0 : List Int) (l1 : List Int) : Option (Bool) := if (l0.length : Int) = (l1.length : Int) then (laws_eqInt64S.l0 k l0 l1 0) else (some false)
theorem laws_eqInt64S.mono_l : ∀ k, (∀ y0 y1 y2, LeO (laws_eqInt64S.l0 k y0 y1 y2) (laws_eqInt64S.l0 (k + 1) y0 y1 y2))
  | 0 => fun _ _ _ r h => by simp [laws_eqInt64S.l0] at h
  | k + 1 => by
    have ih0 := laws_eqInt64S.mono_l k
    · intro y0 y1 y2
      unfold laws_eqInt64S.l0
      repeat' first
      | (with_reducible exact ih0 _ _ _)
      | (with_reducible exact LeO.refl _)
      | (with_reducible exact LeO.none _)
      | (with_reducible refine LeO.ite ?_ ?_)
      | (with_reducible refine LeO.bind ?_ (fun _ => ?_))
      | exact ih0 _ _ _
      | exact LeO.none _
      | refine LeO.ite ?_ ?_
      | refine LeO.bind ?_ (fun _ => ?_)
theorem laws_eqInt64S.mono : ∀ a0 a1 k, LeO (laws_eqInt64S.f k a0 a1) (laws_eqInt64S.f (k + 1) a0 a1) := by
  intro a0 a1 k
  have ih0 := laws_eqInt64S.mono_l k
  unfold laws_eqInt64S.f
  repeat' first
      | (with_reducible exact ih0 _ _ _)
      | (with_reducible exact LeO.refl _)
      | (with_reducible exact LeO.none _)
      | (with_reducible refine LeO.ite ?_ ?_)
      | (with_reducible refine LeO.bind ?_ (fun _ => ?_))
      | exact ih0 _ _ _
      | exact LeO.none _
      | refine LeO.ite ?_ ?_
      | refine LeO.bind ?_ (fun _ => ?_)

end Go.Proofs.Ytjjockhekaccnaa.X
namespace Go.Proofs.Ytjjockhekaccnaa.X
open Go.RowKit Go.Proofs.YtjjockhekaccnaaW.PrintWords Go.Proofs.YtjjockhekaccnaaW.PrintLast Go.Proofs.YtjjockhekaccnaaW.PrintMore
attribute [local go_sem] max2_int min2_int max_two min_two max_three min_three max_four min_four   -- for this text's walks alone
set_option linter.unusedVariables false
set_option linter.unusedSimpArgs false

/-! ### laws_eqLattice: function 95 -/
def laws_eqLattice.f (a0_0 : Int) (a0_1 : Int) (a0_2 : Int) (a1_0 : Int) (a1_1 : Int) (a1_2 : Int) : Option (Bool) := if a0_0 = a1_0 then (if a0_1 = a1_1 then (if a0_2 = a1_2 then (some true) else (some false)) else (some false)) else (some false)

end Go.Proofs.Ytjjockhekaccnaa.X
namespace Go.Proofs.Ytjjockhekaccnaa.X
open Go.RowKit Go.Proofs.YtjjockhekaccnaaW.PrintWords Go.Proofs.YtjjockhekaccnaaW.PrintLast Go.Proofs.YtjjockhekaccnaaW.PrintMore
attribute [local go_sem] max2_int min2_int max_two min_two max_three min_three max_four min_four   -- for this text's walks alone
set_option linter.unusedVariables false
set_option linter.unusedSimpArgs false

/-! ### laws_eqPattern: function 53 -/
def laws_eqPattern.f (k : Nat) (a0_0 : Int) (a0_1 : Int) (a0_2 : Int) (a0_3 : Int) (l0_4 : List Int) (a1_0 : Int) (a1_1 : Int) (a1_2 : Int) (a1_3 : Int) (l1_4 : List Int) : Option (Bool) := if a0_0 = a1_0 then ((laws_eqLattice.f a0_1 a0_2 a0_3 a1_1 a1_2 a1_3).bind fun t995 => (if t995 = true then ((laws_eqInt64S.f k l0_4 l1_4).bind fun t996 => (if t996 = true then (some true) else (some false))) else (some false))) else (some false)
theorem laws_eqPattern.mono : ∀ a0 a1 a2 a3 a4 a5 a6 a7 a8 a9 k, LeO (laws_eqPattern.f k a0 a1 a2 a3 a4 a5 a6 a7 a8 a9) (laws_eqPattern.f (k + 1) a0 a1 a2 a3 a4 a5 a6 a7 a8 a9) := by
  intro a0 a1 a2 a3 a4 a5 a6 a7 a8 a9 k
  unfold laws_eqPattern.f
  repeat' first
      | (with_reducible exact laws_eqInt64S.mono _ _ _)
      | (with_reducible exact LeO.refl _)
      | (with_reducible exact LeO.none _)
      | (with_reducible refine LeO.ite ?_ ?_)
      | (with_reducible refine LeO.bind ?_ (fun _ => ?_))
      | exact laws_eqInt64S.mono _ _ _
      | exact LeO.none _
      | refine LeO.ite ?_ ?_
      | refine LeO.bind ?_ (fun _ => ?_)

end Go.Proofs.Ytjjockhekaccnaa.X
namespace Go.Proofs.Ytjjockhekaccnaa.X
open Go.RowKit Go.Proofs.YtjjockhekaccnaaW.PrintWords Go.Proofs.YtjjockhekaccnaaW.PrintLast Go.Proofs.YtjjockhekaccnaaW.PrintMore
attribute [local go_sem] max2_int min2_int max_two min_two max_three min_three max_four min_four   -- for this text's walks alone
set_option linter.unusedVariables false
set_option linter.unusedSimpArgs false

/-! ### spec_l01In: function 65 -/
def spec_l01In.f (a0 : Int) (a1 : Int) (a2 : Int) : Option (Bool) := if a0 ≥ a1 then (some (decide (a0 ≤ a2))) else (some false)

end Go.Proofs.Ytjjockhekaccnaa.X
namespace Go.Proofs.Ytjjockhekaccnaa.X
open Go.RowKit Go.Proofs.YtjjockhekaccnaaW.PrintWords Go.Proofs.YtjjockhekaccnaaW.PrintLast Go.Proofs.YtjjockhekaccnaaW.PrintMore
attribute [local go_sem] max2_int min2_int max_two min_two max_three min_three max_four min_four   -- for this text's walks alone
set_option linter.unusedVariables false
set_option linter.unusedSimpArgs false

/-! ### spec_l01Within: function 89 -/
def spec_l01Within.l0 : Nat → List Int → Int → Int → Int → Int → Option (Bool)
  | 0, _, _, _, _, _ => none
  | k + 1, x0, x1, x2, x3, x9 => if x9 < (x0.length : Int) then (if 0 ≤ x9 then ((spec_l01In.f (rd x0 x9) x2 x3).bind fun t104 => (if t104 = true then (spec_l01Within.l0 k x0 x1 x2 x3 (wrap64 (x9 + 1))) else (some false))) else (none)) else (some (decide ((x0.length : Int) ≤ x1)))
def spec_l01Within.f (k : Nat) (l0 : List Int) (a1 : Int) (a2 : Int) (a3 : Int) : Option (Bool) := spec_l01Within.l0 k l0 a1 a2 a3 0
theorem spec_l01Within.mono_l : ∀ k, (∀ y0 y1 y2 y3 y4, LeO (spec_l01Within.l0 k y0 y1 y2 y3 y4) (spec_l01Within.l0 (k + 1) y0 y1 y2 y3 y4))
  | 0 => fun _ _ _ _ _ r h => by simp [spec_l01Within.l0] at h
  | k + 1 => by
    have ih0 := spec_l01Within.mono_l k
    · intro y0 y1 y2 y3 y4
      unfold spec_l01Within.l0
      repeat' first
      | (with_reducible exact ih0 _ _ _ _ _)
      | (with_reducible exact LeO.refl _)
      | (with_reducible exact LeO.none _)
      | (with_reducible refine LeO.ite ?_ ?_)
      | (with_reducible refine LeO.bind ?_ (fun _ => ?_))
      | exact ih0 _ _ _ _ _
      | exact LeO.none _
      | refine LeO.ite ?_ ?_
      | refine LeO.bind ?_ (fun _ => ?_)
theorem spec_l01Within.mono : ∀ a0 a1 a2 a3 k, LeO (spec_l01Within.f k a0 a1 a2 a3) (spec_l01Within.f (k + 1) a0 a1 a2 a3) := by
  intro a0 a1 a2 a3 k
  have ih0 := spec_l01Within.mono_l k
  unfold spec_l01Within.f
  repeat' first
      | (with_reducible exact ih0 _ _ _ _ _)
      | (with_reducible exact LeO.refl _)
      | (with_reducible exact LeO.none _)
      | (with_reducible refine LeO.ite ?_ ?_)
      | (with_reducible refine LeO.bind ?_ (fun _ => ?_))
      | exact ih0 _ _ _ _ _
      | exact LeO.none _
      | refine LeO.ite ?_ ?_
      | refine LeO.bind ?_ (fun _ => ?_)

end Go.Proofs.Ytjjockhekaccnaa.X
namespace Go.Proofs.Ytjjockhekaccnaa.X
open Go.RowKit Go.Proofs.YtjjockhekaccnaaW.PrintWords Go.Proofs.YtjjockhekaccnaaW.PrintLast Go.Proofs.YtjjockhekaccnaaW.PrintMore
attribute [local go_sem] max2_int min2_int max_two min_two max_three min_three max_four min_four   -- for this text's walks alone
set_option linter.unusedVariables false
set_option linter.unusedSimpArgs false

/-! ### spec_IsFrame: function 120 -/
def spec_IsFrame.f (a0 : Int) : Option (Bool) := if a0 = 0 then (some true) else (some (a0 == 1))

end Go.Proofs.Ytjjockhekaccnaa.X
namespace Go.Proofs.Ytjjockhekaccnaa.X
open Go.RowKit Go.Proofs.YtjjockhekaccnaaW.PrintWords Go.Proofs.YtjjockhekaccnaaW.PrintLast Go.Proofs.YtjjockhekaccnaaW.PrintMore
attribute [local go_sem] max2_int min2_int max_two min_two max_three min_three max_four min_four   -- for this text's walks alone
set_option linter.unusedVariables false
set_option linter.unusedSimpArgs false

/-! ### spec_IsLattice: function 121 -/
def spec_IsLattice.f (a0_0 : Int) (a0_1 : Int) (a0_2 : Int) : Option (Bool) := (spec_l01In.f a0_0 1 64).bind fun t935 => (if t935 = true then ((spec_l01In.f a0_2 1 64).bind fun t936 => (if t936 = true then ((spec_l01In.f a0_1 0 (wrap64 (a0_0 - 1))).bind fun t937 => (if t937 = true then (some (decide ((wrap64 (a0_0 * a0_2)) ≤ 64))) else (some false))) else (some false))) else (some false))

end Go.Proofs.Ytjjockhekaccnaa.X
namespace Go.Proofs.Ytjjockhekaccnaa.X
open Go.RowKit Go.Proofs.YtjjockhekaccnaaW.PrintWords Go.Proofs.YtjjockhekaccnaaW.PrintLast Go.Proofs.YtjjockhekaccnaaW.PrintMore
attribute [local go_sem] max2_int min2_int max_two min_two max_three min_three max_four min_four   -- for this text's walks alone
set_option linter.unusedVariables false
set_option linter.unusedSimpArgs false

/-! ### spec_l04Code: function 111 -/
def spec_l04Code.f (a0 : Int) (a1_0 : Int) (a1_1 : Int) (a1_2 : Int) : Option (Int) := (spec_IsFrame.f a0).bind fun t939 => (if t939 = true then ((spec_IsLattice.f a1_0 a1_1 a1_2).bind fun t940 => (if t940 = true then (some 0) else (some 1))) else (some 1))

end Go.Proofs.Ytjjockhekaccnaa.X
namespace Go.Proofs.Ytjjockhekaccnaa.X
open Go.RowKit Go.Proofs.YtjjockhekaccnaaW.PrintWords Go.Proofs.YtjjockhekaccnaaW.PrintLast Go.Proofs.YtjjockhekaccnaaW.PrintMore
attribute [local go_sem] max2_int min2_int max_two min_two max_three min_three max_four min_four   -- for this text's walks alone
set_option linter.unusedVariables false
set_option linter.unusedSimpArgs false

/-! ### spec_IsPattern: function 99 -/
def spec_IsPattern.f (k : Nat) (a0_0 : Int) (a0_1 : Int) (a0_2 : Int) (a0_3 : Int) (l0_4 : List Int) : Option (Bool) := (spec_l04Code.f a0_0 a0_1 a0_2 a0_3).bind fun t942 => (if t942 = 0 then (if (l0_4.length : Int) = (wrap64 (a0_1 * a0_3)) then ((spec_l01Within.f k l0_4 64 0 9).bind fun t943 => (some t943)) else (some false)) else (some false))
theorem spec_IsPattern.mono : ∀ a0 a1 a2 a3 a4 k, LeO (spec_IsPattern.f k a0 a1 a2 a3 a4) (spec_IsPattern.f (k + 1) a0 a1 a2 a3 a4) := by
  intro a0 a1 a2 a3 a4 k
  unfold spec_IsPattern.f
  repeat' first
      | (with_reducible exact spec_l01Within.mono _ _ _ _ _)
      | (with_reducible exact LeO.refl _)
      | (with_reducible exact LeO.none _)
      | (with_reducible refine LeO.ite ?_ ?_)
      | (with_reducible refine LeO.bind ?_ (fun _ => ?_))
      | exact spec_l01Within.mono _ _ _ _ _
      | exact LeO.none _
      | refine LeO.ite ?_ ?_
      | refine LeO.bind ?_ (fun _ => ?_)

end Go.Proofs.Ytjjockhekaccnaa.X
namespace Go.Proofs.Ytjjockhekaccnaa.X
open Go.RowKit Go.Proofs.YtjjockhekaccnaaW.PrintWords Go.Proofs.YtjjockhekaccnaaW.PrintLast Go.Proofs.YtjjockhekaccnaaW.PrintMore
attribute [local go_sem] max2_int min2_int max_two min_two max_three min_three max_four min_four   -- for this text's walks alone
set_option linter.unusedVariables false
set_option linter.unusedSimpArgs false

/-! ### spec_l25Code: function 90 -/
def spec_l25Code.f (k : Nat) (a0_0 : Int) (a0_1 : Int) (a0_2 : Int) (a0_3 : Int) (l0_4 : List Int) (a1 : Bool) : Option (Int) := (spec_IsPattern.f k a0_0 a0_1 a0_2 a0_3 l0_4).bind fun t945 => (if t945 = true then (if a1 = true then (some 0) else (some 2)) else (some 1))
theorem spec_l25Code.mono : ∀ a0 a1 a2 a3 a4 a5 k, LeO (spec_l25Code.f k a0 a1 a2 a3 a4 a5) (spec_l25Code.f (k + 1) a0 a1 a2 a3 a4 a5) := by
  intro a0 a1 a2 a3 a4 a5 k
  unfold spec_l25Code.f
  repeat' first
      | (with_reducible exact spec_IsPattern.mono _ _ _ _ _ _)
      | (with_reducible exact LeO.refl _)
      | (with_reducible exact LeO.none _)
      | (with_reducible refine LeO.ite ?_ ?_)
      | (with_reducible refine LeO.bind ?_ (fun _ => ?_))
      | exact spec_IsPattern.mono _ _ _ _ _ _
      | exact LeO.none _
      | refine LeO.ite ?_ ?_
      | refine LeO.bind ?_ (fun _ => ?_)

end Go.Proofs.Ytjjockhekaccnaa.X
namespace Go.Proofs.Ytjjockhekaccnaa.X
open Go.RowKit Go.Proofs.YtjjockhekaccnaaW.PrintWords Go.Proofs.YtjjockhekaccnaaW.PrintLast Go.Proofs.YtjjockhekaccnaaW.PrintMore
attribute [local go_sem] max2_int min2_int max_two min_two max_three min_three max_four min_four   -- for this text's walks alone
set_option linter.unusedVariables false
set_option linter.unusedSimpArgs false

/-! ### spec_l25Mask: function 96 -/
def spec_l25Mask.l0 : Nat → Int → Int → Int → Int → Int → Int → List Int → Int → Int → Int → Int → List Int → Option (Int × Int × Int × Int × List Int)
  | 0, _, _, _, _, _, _, _, _, _, _, _, _ => none
  | k + 1, x1, x6, x1027000, x1027001, x1027002, x1027003, x1027004, x1032000, x1032001, x1032002, x1032003, x1032004 => if x6 < (x1027004.length : Int) then (if 0 ≤ x6 then (if (rd x1027004 x6) = x1 then (if x1032004.length < 17592186044416 then (spec_l25Mask.l0 k x1 (wrap64 (x6 + 1)) x1027000 x1027001 x1027002 x1027003 x1027004 x1032000 x1032001 x1032002 x1032003 (x1032004 ++ [1])) else (none)) else (if x1032004.length < 17592186044416 then (spec_l25Mask.l0 k x1 (wrap64 (x6 + 1)) x1027000 x1027001 x1027002 x1027003 x1027004 x1032000 x1032001 x1032002 x1032003 (x1032004 ++ [0])) else (none))) else (none)) else (some (x1032000, x1032001, x1032002, x1032003, x1032004))
def spec_l25Mask.f (k : Nat) (a0_0 : Int) (a0_1 : Int) (a0_2 : Int) (a0_3 : Int) (l0_4 : List Int) (a1 : Int) : Option (Int × Int × Int × Int × List Int) := spec_l25Mask.l0 k a1 0 a0_0 a0_1 a0_2 a0_3 l0_4 a0_0 a0_1 a0_2 a0_3 (([] : List Int))
theorem spec_l25Mask.mono_l : ∀ k, (∀ y0 y1 y2 y3 y4 y5 y6 y7 y8 y9 y10 y11, LeO (spec_l25Mask.l0 k y0 y1 y2 y3 y4 y5 y6 y7 y8 y9 y10 y11) (spec_l25Mask.l0 (k + 1) y0 y1 y2 y3 y4 y5 y6 y7 y8 y9 y10 y11))
  | 0 => fun _ _ _ _ _ _ _ _ _ _ _ _ r h => by simp [spec_l25Mask.l0] at h
  | k + 1 => by
    have ih0 := spec_l25Mask.mono_l k
    · intro y0 y1 y2 y3 y4 y5 y6 y7 y8 y9 y10 y11
      unfold spec_l25Mask.l0
      repeat' first
      | (with_reducible exact ih0 _ _ _ _ _ _ _ _ _ _ _ _)
      | (with_reducible exact LeO.refl _)
      | (with_reducible exact LeO.none _)
      | (with_reducible refine LeO.ite ?_ ?_)
      | (with_reducible refine LeO.bind ?_ (fun _ => ?_))
      | exact ih0 _ _ _ _ _ _ _ _ _ _ _ _
      | exact LeO.none _
      | refine LeO.ite ?_ ?_
      | refine LeO.bind ?_ (fun _ => ?_)
theorem spec_l25Mask.mono : ∀ a0 a1 a2 a3 a4 a5 k, LeO (spec_l25Mask.f k a0 a1 a2 a3 a4 a5) (spec_l25Mask.f (k + 1) a0 a1 a2 a3 a4 a5) := by
  intro a0 a1 a2 a3 a4 a5 k
  have ih0 := spec_l25Mask.mono_l k
  unfold spec_l25Mask.f
  repeat' first
      | (with_reducible exact ih0 _ _ _ _ _ _ _ _ _ _ _ _)
      | (with_reducible exact LeO.refl _)
      | (with_reducible exact LeO.none _)
      | (with_reducible refine LeO.ite ?_ ?_)
      | (with_reducible refine LeO.bind ?_ (fun _ => ?_))
      | exact ih0 _ _ _ _ _ _ _ _ _ _ _ _
      | exact LeO.none _
      | refine LeO.ite ?_ ?_
      | refine LeO.bind ?_ (fun _ => ?_)

end Go.Proofs.Ytjjockhekaccnaa.X
namespace Go.Proofs.Ytjjockhekaccnaa.X
open Go.RowKit Go.Proofs.YtjjockhekaccnaaW.PrintWords Go.Proofs.YtjjockhekaccnaaW.PrintLast Go.Proofs.YtjjockhekaccnaaW.PrintMore
attribute [local go_sem] max2_int min2_int max_two min_two max_three min_three max_four min_four   -- for this text's walks alone
set_option linter.unusedVariables false
set_option linter.unusedSimpArgs false

/-! ### spec_MaskOf: function 54 -/
def spec_MaskOf.f (k : Nat) (a0_0 : Int) (a0_1 : Int) (a0_2 : Int) (a0_3 : Int) (l0_4 : List Int) (a1 : Int) : Option (Int × Int × Int × Int × List Int × Int) := (spec_l01In.f a1 1 9).bind fun t1041 => ((spec_l25Code.f k a0_0 a0_1 a0_2 a0_3 l0_4 t1041).bind fun t1042 => (if t1042 = 0 then ((spec_l25Mask.f k a0_0 a0_1 a0_2 a0_3 l0_4 a1).bind fun bt1043 => (some (bt1043.1, bt1043.2.1, bt1043.2.2.1, bt1043.2.2.2.1, bt1043.2.2.2.2, 0))) else (some (0, 0, 0, 0, ([] : List Int), t1042))))
theorem spec_MaskOf.mono : ∀ a0 a1 a2 a3 a4 a5 k, LeO (spec_MaskOf.f k a0 a1 a2 a3 a4 a5) (spec_MaskOf.f (k + 1) a0 a1 a2 a3 a4 a5) := by
  intro a0 a1 a2 a3 a4 a5 k
  unfold spec_MaskOf.f
  repeat' first
      | (with_reducible exact spec_l25Code.mono _ _ _ _ _ _ _)
      | (with_reducible exact spec_l25Mask.mono _ _ _ _ _ _ _)
      | (with_reducible exact LeO.refl _)
      | (with_reducible exact LeO.none _)
      | (with_reducible refine LeO.ite ?_ ?_)
      | (with_reducible refine LeO.bind ?_ (fun _ => ?_))
      | exact spec_l25Code.mono _ _ _ _ _ _ _
      | exact spec_l25Mask.mono _ _ _ _ _ _ _
      | exact LeO.none _
      | refine LeO.ite ?_ ?_
      | refine LeO.bind ?_ (fun _ => ?_)

end Go.Proofs.Ytjjockhekaccnaa.X
namespace Go.Proofs.Ytjjockhekaccnaa.X
open Go.RowKit Go.Proofs.YtjjockhekaccnaaW.PrintWords Go.Proofs.YtjjockhekaccnaaW.PrintLast Go.Proofs.YtjjockhekaccnaaW.PrintMore
attribute [local go_sem] max2_int min2_int max_two min_two max_three min_three max_four min_four   -- for this text's walks alone
set_option linter.unusedVariables false
set_option linter.unusedSimpArgs false

/-! ### impl_within: function 69 -/
def impl_within.f (a0 : Int) (a1 : Int) (a2 : Int) : Option (Bool) := if a0 ≥ a1 then (some (decide (a0 ≤ a2))) else (some false)

end Go.Proofs.Ytjjockhekaccnaa.X
namespace Go.Proofs.Ytjjockhekaccnaa.X
open Go.RowKit Go.Proofs.YtjjockhekaccnaaW.PrintWords Go.Proofs.YtjjockhekaccnaaW.PrintLast Go.Proofs.YtjjockhekaccnaaW.PrintMore
attribute [local go_sem] max2_int min2_int max_two min_two max_three min_three max_four min_four   -- for this text's walks alone
set_option linter.unusedVariables false
set_option linter.unusedSimpArgs false

/-! ### impl_isInk: function 93 -/
def impl_isInk.f (a0 : Int) : Option (Bool) := (impl_within.f a0 1 9).bind fun t982 => (some t982)

end Go.Proofs.Ytjjockhekaccnaa.X
namespace Go.Proofs.Ytjjockhekaccnaa.X
open Go.RowKit Go.Proofs.YtjjockhekaccnaaW.PrintWords Go.Proofs.YtjjockhekaccnaaW.PrintLast Go.Proofs.YtjjockhekaccnaaW.PrintMore
attribute [local go_sem] max2_int min2_int max_two min_two max_three min_three max_four min_four   -- for this text's walks alone
set_option linter.unusedVariables false
set_option linter.unusedSimpArgs false

/-! ### base: function 999999 -/
theorem enters_of {P : Program} {f : FuncId} {fn : Func} {c : Code} (hf : P.funcs[f]? = some fn) (hname : (fn.name == "runtime.NumGoroutine") = false) (hb : fn.body = some c) (args : Array Value) (w : World) : (callFunc f args).run P w = .ok (.enter f args) w := by
  have h1 : fn.name ≠ "runtime.NumGoroutine" := by simpa using hname
  simp [callFunc, hf, h1, hb, mark]
/-- where p first holds -/
def fidx {α : Type} (p : α → Bool) (xs : List α) : Int := match xs.findIdx? p with | some i => (i : Int) | none => -1
theorem fidx_hit {α : Type} (p : α → Bool) (xs : List α) (d : α) (k : Nat) (hk : k < xs.length) (h : ∀ j, j < k → p (xs.getD j d) = false) (hp : p (xs.getD k d) = true) : fidx p xs = (k : Int) := by
  have e : xs.findIdx? p = some k := by
    rw [List.findIdx?_eq_some_iff_getElem]
    refine ⟨hk, ?_, fun j hj => ?_⟩
    · simpa [List.getD_eq_getElem?_getD, List.getElem?_eq_getElem hk] using hp
    · have := h j hj
      simpa [List.getD_eq_getElem?_getD, List.getElem?_eq_getElem (show j < xs.length by omega)] using this
  unfold fidx
  rw [e]
theorem fidx_miss {α : Type} (p : α → Bool) (xs : List α) (d : α) (h : ∀ j, j < xs.length → p (xs.getD j d) = false) : fidx p xs = -1 := by
  have e : xs.findIdx? p = none := by
    rw [List.findIdx?_eq_none_iff]
    intro x hx
    obtain ⟨j, hj, rfl⟩ := List.mem_iff_getElem.1 hx
    have := h j hj
    simpa [List.getD_eq_getElem?_getD, List.getElem?_eq_getElem hj] using this
  unfold fidx
  rw [e]
theorem fidx_nonneg {α : Type} (p : α → Bool) (xs : List α) : decide (0 ≤ fidx p xs) = xs.any p := by
  unfold fidx
  cases e : xs.findIdx? p with
  | none =>
    rw [List.findIdx?_eq_none_iff] at e
    have : xs.any p = false := by rw [List.any_eq_false]; intro x hx; simp [e x hx]
    rw [this]
    rfl
  | some i =>
    rw [List.findIdx?_eq_some_iff_getElem] at e
    obtain ⟨h, hp, _⟩ := e
    have : xs.any p = true := List.any_eq_true.2 ⟨xs[i], List.getElem_mem h, hp⟩
    rw [this]
    simp

/-! ### base: function 999999 -/
/-! What a function with rounds comes to, whatever the rounds: its limit. -/
def Mono {α : Type} (g : Nat → Option α) : Prop := ∀ k, LeO (g k) (g (k + 1))
def Lim {α : Type} (g : Nat → Option α) (v : Option α) : Prop := Mono g ∧ ∀ r, v = some r ↔ ∃ k, g k = some r
open Classical in
noncomputable def lim {α : Type} (g : Nat → Option α) : Option α := if h : ∃ k r, g k = some r then g h.choose else none
theorem Mono.le {α : Type} {g : Nat → Option α} (hm : Mono g) {j k : Nat} (h : j ≤ k) {r : α} (hr : g j = some r) : g k = some r := at_rounds hm h hr
theorem lim_Lim {α : Type} {g : Nat → Option α} (hm : Mono g) : Lim g (lim g) := by
  refine ⟨hm, fun r => ?_⟩
  unfold lim
  split
  · rename_i h
    obtain ⟨q, hq⟩ := h.choose_spec
    rw [hq]
    constructor
    · intro e; exact ⟨_, hq.trans e⟩
    · rintro ⟨k, hk⟩
      have h1 := hm.le (Nat.le_max_left h.choose k) hq
      have h2 := hm.le (Nat.le_max_right h.choose k) hk
      rw [← h1, h2]
  · rename_i h
    constructor
    · intro e; cases e
    · rintro ⟨k, hk⟩; exact absurd ⟨k, r, hk⟩ h
theorem Lim.uniq {α : Type} {g : Nat → Option α} {v w : Option α} (h : Lim g v) (h' : Lim g w) : v = w := by
  cases v with
  | some r => exact ((h'.2 r).2 ((h.2 r).1 rfl)).symm
  | none =>
    cases w with
    | none => rfl
    | some r => exact (h.2 r).2 ((h'.2 r).1 rfl)
theorem Lim.const {α : Type} (v : Option α) : Lim (fun _ => v) v := ⟨fun _ => LeO.refl _, fun r => ⟨fun h => ⟨0, h⟩, fun ⟨_, h⟩ => h⟩⟩
theorem Lim.ite {α : Type} {c : Prop} [Decidable c] {g f : Nat → Option α} {v w : Option α} (h : Lim g v) (h' : Lim f w) : Lim (fun k => if c then g k else f k) (if c then v else w) := by
  by_cases hc : c
  · simp only [if_pos hc]; exact h
  · simp only [if_neg hc]; exact h'
theorem Lim.bind {α β : Type} {g : Nat → Option α} {f : Nat → α → Option β} {v : Option α} {w : α → Option β} (h : Lim g v) (h' : ∀ x, Lim (fun k => f k x) (w x)) : Lim (fun k => (g k).bind (f k)) (v.bind w) := by
  refine ⟨fun k => LeO.bind (h.1 k) (fun x => (h' x).1 k), fun r => ?_⟩
  rw [Option.bind_eq_some_iff]
  constructor
  · rintro ⟨x, hx, hr⟩
    obtain ⟨k, hk⟩ := (h.2 x).1 hx
    obtain ⟨j, hj⟩ := ((h' x).2 r).1 hr
    refine ⟨max k j, ?_⟩
    show (g (max k j)).bind (f (max k j)) = some r
    rw [h.1.le (Nat.le_max_left k j) hk]
    exact (h' x).1.le (Nat.le_max_right k j) hj
  · rintro ⟨k, hk⟩
    obtain ⟨x, hx, hr⟩ := Option.bind_eq_some_iff.1 hk
    exact ⟨x, (h.2 x).2 ⟨k, hx⟩, ((h' x).2 r).2 ⟨k, hr⟩⟩
theorem lim_step {α : Type} {g f : Nat → Option α} {v : Option α} (hm : Mono g) (h : ∀ k, g (k + 1) = f k) (hf : Lim f v) : lim g = v := by
  refine (lim_Lim hm).uniq ⟨hm, fun r => ?_⟩
  rw [hf.2 r]
  constructor
  · rintro ⟨k, hk⟩; exact ⟨k + 1, (h k).trans hk⟩
  · rintro ⟨k, hk⟩; exact ⟨k, (h k).symm.trans (hm k r hk)⟩
theorem lim_now {α : Type} {g f : Nat → Option α} {v : Option α} (h : ∀ k, g k = f k) (hf : Lim f v) : lim g = v := by
  have e : g = f := funext h
  subst e
  exact (lim_Lim hf.1).uniq hf
theorem lim_some {α : Type} {g : Nat → Option α} (hm : Mono g) {r : α} (h : lim g = some r) : ∃ k, g k = some r := ((lim_Lim hm).2 r).1 h

end Go.Proofs.Ytjjockhekaccnaa.X
namespace Go.Proofs.Ytjjockhekaccnaa.X
open Go.RowKit Go.Proofs.YtjjockhekaccnaaW.PrintWords Go.Proofs.YtjjockhekaccnaaW.PrintLast Go.Proofs.YtjjockhekaccnaaW.PrintMore
attribute [local go_sem] max2_int min2_int max_two min_two max_three min_three max_four min_four   -- for this text's walks alone
set_option linter.unusedVariables false
set_option linter.unusedSimpArgs false

/-! ### impl_allWithin: function 88 -/
def impl_allWithin.f (l0 : List Int) (a1 : Int) (a2 : Int) : Option (Bool) := some (l0.all fun n => decide (a1 ≤ n) && decide (n ≤ a2))

end Go.Proofs.Ytjjockhekaccnaa.X
namespace Go.Proofs.Ytjjockhekaccnaa.X
open Go.RowKit Go.Proofs.YtjjockhekaccnaaW.PrintWords Go.Proofs.YtjjockhekaccnaaW.PrintLast Go.Proofs.YtjjockhekaccnaaW.PrintMore
attribute [local go_sem] max2_int min2_int max_two min_two max_three min_three max_four min_four   -- for this text's walks alone
set_option linter.unusedVariables false
set_option linter.unusedSimpArgs false

/-! ### impl_Lattice_index: function 94 -/
def impl_Lattice_index.f (a0_0 : Int) (a0_1 : Int) (a0_2 : Int) : Option (Int) := some (wrap64 (a0_0 * a0_2))

end Go.Proofs.Ytjjockhekaccnaa.X
namespace Go.Proofs.Ytjjockhekaccnaa.X
open Go.RowKit Go.Proofs.YtjjockhekaccnaaW.PrintWords Go.Proofs.YtjjockhekaccnaaW.PrintLast Go.Proofs.YtjjockhekaccnaaW.PrintMore
attribute [local go_sem] max2_int min2_int max_two min_two max_three min_three max_four min_four   -- for this text's walks alone
set_option linter.unusedVariables false
set_option linter.unusedSimpArgs false

/-! ### impl_IsFrame: function 109 -/
def impl_IsFrame.f (a0 : Int) : Option (Bool) := (impl_within.f a0 0 1).bind fun t963 => (some t963)

end Go.Proofs.Ytjjockhekaccnaa.X
namespace Go.Proofs.Ytjjockhekaccnaa.X
open Go.RowKit Go.Proofs.YtjjockhekaccnaaW.PrintWords Go.Proofs.YtjjockhekaccnaaW.PrintLast Go.Proofs.YtjjockhekaccnaaW.PrintMore
attribute [local go_sem] max2_int min2_int max_two min_two max_three min_three max_four min_four   -- for this text's walks alone
set_option linter.unusedVariables false
set_option linter.unusedSimpArgs false

/-! ### impl_IsLattice: function 110 -/
def impl_IsLattice.f (a0_0 : Int) (a0_1 : Int) (a0_2 : Int) : Option (Bool) := (impl_within.f a0_0 1 64).bind fun t965 => (if t965 = true then ((impl_within.f a0_2 1 64).bind fun t966 => (if t966 = true then ((impl_within.f a0_1 0 (wrap64 (a0_0 - 1))).bind fun t967 => (if t967 = true then ((impl_Lattice_index.f a0_0 a0_1 a0_2).bind fun t968 => (some (decide (t968 ≤ 64)))) else (some false))) else (some false))) else (some false))

end Go.Proofs.Ytjjockhekaccnaa.X
namespace Go.Proofs.Ytjjockhekaccnaa.X
open Go.RowKit Go.Proofs.YtjjockhekaccnaaW.PrintWords Go.Proofs.YtjjockhekaccnaaW.PrintLast Go.Proofs.YtjjockhekaccnaaW.PrintMore
attribute [local go_sem] max2_int min2_int max_two min_two max_three min_three max_four min_four   -- for this text's walks alone
set_option linter.unusedVariables false
set_option linter.unusedSimpArgs false

/-! ### impl_IsPattern: function 97 -/
def impl_IsPattern.f (a0_0 : Int) (a0_1 : Int) (a0_2 : Int) (a0_3 : Int) (l0_4 : List Int) : Option (Bool) := (impl_IsFrame.f a0_0).bind fun t970 => (if t970 = true then ((impl_IsLattice.f a0_1 a0_2 a0_3).bind fun t971 => (if t971 = true then ((impl_Lattice_index.f a0_1 a0_2 a0_3).bind fun t972 => (if (l0_4.length : Int) = t972 then ((impl_allWithin.f l0_4 0 9).bind fun t973 => (some t973)) else (some false))) else (some false))) else (some false))

end Go.Proofs.Ytjjockhekaccnaa.X
namespace Go.Proofs.Ytjjockhekaccnaa.X
open Go.RowKit Go.Proofs.YtjjockhekaccnaaW.PrintWords Go.Proofs.YtjjockhekaccnaaW.PrintLast Go.Proofs.YtjjockhekaccnaaW.PrintMore
attribute [local go_sem] max2_int min2_int max_two min_two max_three min_three max_four min_four   -- for this text's walks alone
set_option linter.unusedVariables false
set_option linter.unusedSimpArgs false

/-! ### impl_Pattern_mask: function 98 -/
def impl_Pattern_mask.l0 : Nat → Int → List Int → Int → Int → Int → Int → Int → Int → List Int → Option (Int × Int × Int × Int × List Int)
  | 0, _, _, _, _, _, _, _, _, _ => none
  | k + 1, x1, x15, x16, x17, x1053000, x1053001, x1053002, x1053003, x1053004 => if x17 < x16 then (if 0 ≤ x17 then (if x17 < (x15.length : Int) then (if (rd x15 x17) = x1 then (if x1053004.length < 17592186044416 then (impl_Pattern_mask.l0 k x1 x15 x16 (wrap64 (x17 + 1)) x1053000 x1053001 x1053002 x1053003 (x1053004 ++ [1])) else (none)) else (if x1053004.length < 17592186044416 then (impl_Pattern_mask.l0 k x1 x15 x16 (wrap64 (x17 + 1)) x1053000 x1053001 x1053002 x1053003 (x1053004 ++ [0])) else (none))) else (none)) else (none)) else (some (x1053000, x1053001, x1053002, x1053003, x1053004))
def impl_Pattern_mask.f (k : Nat) (a0_0 : Int) (a0_1 : Int) (a0_2 : Int) (a0_3 : Int) (l0_4 : List Int) (a1 : Int) : Option (Int × Int × Int × Int × List Int) := impl_Pattern_mask.l0 k a1 l0_4 (l0_4.length : Int) 0 a0_0 a0_1 a0_2 a0_3 ([] : List Int)
theorem impl_Pattern_mask.mono_l : ∀ k, (∀ y0 y1 y2 y3 y4 y5 y6 y7 y8, LeO (impl_Pattern_mask.l0 k y0 y1 y2 y3 y4 y5 y6 y7 y8) (impl_Pattern_mask.l0 (k + 1) y0 y1 y2 y3 y4 y5 y6 y7 y8))
  | 0 => fun _ _ _ _ _ _ _ _ _ r h => by simp [impl_Pattern_mask.l0] at h
  | k + 1 => by
    have ih0 := impl_Pattern_mask.mono_l k
    · intro y0 y1 y2 y3 y4 y5 y6 y7 y8
      unfold impl_Pattern_mask.l0
      repeat' first
      | (with_reducible exact ih0 _ _ _ _ _ _ _ _ _)
      | (with_reducible exact LeO.refl _)
      | (with_reducible exact LeO.none _)
      | (with_reducible refine LeO.ite ?_ ?_)
      | (with_reducible refine LeO.bind ?_ (fun _ => ?_))
      | exact ih0 _ _ _ _ _ _ _ _ _
      | exact LeO.none _
      | refine LeO.ite ?_ ?_
      | refine LeO.bind ?_ (fun _ => ?_)
theorem impl_Pattern_mask.mono : ∀ a0 a1 a2 a3 a4 a5 k, LeO (impl_Pattern_mask.f k a0 a1 a2 a3 a4 a5) (impl_Pattern_mask.f (k + 1) a0 a1 a2 a3 a4 a5) := by
  intro a0 a1 a2 a3 a4 a5 k
  have ih0 := impl_Pattern_mask.mono_l k
  unfold impl_Pattern_mask.f
  repeat' first
      | (with_reducible exact ih0 _ _ _ _ _ _ _ _ _)
      | (with_reducible exact LeO.refl _)
      | (with_reducible exact LeO.none _)
      | (with_reducible refine LeO.ite ?_ ?_)
      | (with_reducible refine LeO.bind ?_ (fun _ => ?_))
      | exact ih0 _ _ _ _ _ _ _ _ _
      | exact LeO.none _
      | refine LeO.ite ?_ ?_
      | refine LeO.bind ?_ (fun _ => ?_)

end Go.Proofs.Ytjjockhekaccnaa.X
namespace Go.Proofs.Ytjjockhekaccnaa.X
open Go.RowKit Go.Proofs.YtjjockhekaccnaaW.PrintWords Go.Proofs.YtjjockhekaccnaaW.PrintLast Go.Proofs.YtjjockhekaccnaaW.PrintMore
attribute [local go_sem] max2_int min2_int max_two min_two max_three min_three max_four min_four   -- for this text's walks alone
set_option linter.unusedVariables false
set_option linter.unusedSimpArgs false

/-! ### impl_MaskOf: function 55 -/
def impl_MaskOf.f (k : Nat) (a0_0 : Int) (a0_1 : Int) (a0_2 : Int) (a0_3 : Int) (l0_4 : List Int) (a1 : Int) : Option (Int × Int × Int × Int × List Int × Int) := (impl_IsPattern.f a0_0 a0_1 a0_2 a0_3 l0_4).bind fun t1062 => (if t1062 = true then ((impl_isInk.f a1).bind fun t1063 => (if t1063 = true then ((impl_Pattern_mask.f k a0_0 a0_1 a0_2 a0_3 l0_4 a1).bind fun bt1064 => (some (bt1064.1, bt1064.2.1, bt1064.2.2.1, bt1064.2.2.2.1, bt1064.2.2.2.2, 0))) else (some (0, 0, 0, 0, ([] : List Int), 2)))) else (some (0, 0, 0, 0, ([] : List Int), 1)))
theorem impl_MaskOf.mono : ∀ a0 a1 a2 a3 a4 a5 k, LeO (impl_MaskOf.f k a0 a1 a2 a3 a4 a5) (impl_MaskOf.f (k + 1) a0 a1 a2 a3 a4 a5) := by
  intro a0 a1 a2 a3 a4 a5 k
  unfold impl_MaskOf.f
  repeat' first
      | (with_reducible exact impl_Pattern_mask.mono _ _ _ _ _ _ _)
      | (with_reducible exact LeO.refl _)
      | (with_reducible exact LeO.none _)
      | (with_reducible refine LeO.ite ?_ ?_)
      | (with_reducible refine LeO.bind ?_ (fun _ => ?_))
      | exact impl_Pattern_mask.mono _ _ _ _ _ _ _
      | exact LeO.none _
      | refine LeO.ite ?_ ?_
      | refine LeO.bind ?_ (fun _ => ?_)

end Go.Proofs.Ytjjockhekaccnaa.X
namespace Go.Proofs.Ytjjockhekaccnaa.X
open Go.RowKit Go.Proofs.YtjjockhekaccnaaW.PrintWords Go.Proofs.YtjjockhekaccnaaW.PrintLast Go.Proofs.YtjjockhekaccnaaW.PrintMore
attribute [local go_sem] max2_int min2_int max_two min_two max_three min_three max_four min_four   -- for this text's walks alone
set_option linter.unusedVariables false
set_option linter.unusedSimpArgs false

/-! ### laws_markInt64S: function 72 -/
def laws_markInt64S.l0 : Nat → List Int → Int → Int → Option (Int × List Int)
  | 0, _, _, _ => none
  | k + 1, x0, x1, x5 => if x5 < (x0.length : Int) then (if 0 ≤ x5 then (laws_markInt64S.l0 k (x0.set (x5 : Int).toNat x1) (wrap64 (x1 + 1)) (wrap64 (x5 + 1))) else (none)) else (some (x1, x0))
def laws_markInt64S.f (k : Nat) (l0 : List Int) (a1 : Int) : Option (Int × List Int) := laws_markInt64S.l0 k l0 a1 0
theorem laws_markInt64S.mono_l : ∀ k, (∀ y0 y1 y2, LeO (laws_markInt64S.l0 k y0 y1 y2) (laws_markInt64S.l0 (k + 1) y0 y1 y2))
  | 0 => fun _ _ _ r h => by simp [laws_markInt64S.l0] at h
  | k + 1 => by
    have ih0 := laws_markInt64S.mono_l k
    · intro y0 y1 y2
      unfold laws_markInt64S.l0
      repeat' first
      | (with_reducible exact ih0 _ _ _)
      | (with_reducible exact LeO.refl _)
      | (with_reducible exact LeO.none _)
      | (with_reducible refine LeO.ite ?_ ?_)
      | (with_reducible refine LeO.bind ?_ (fun _ => ?_))
      | exact ih0 _ _ _
      | exact LeO.none _
      | refine LeO.ite ?_ ?_
      | refine LeO.bind ?_ (fun _ => ?_)
theorem laws_markInt64S.mono : ∀ a0 a1 k, LeO (laws_markInt64S.f k a0 a1) (laws_markInt64S.f (k + 1) a0 a1) := by
  intro a0 a1 k
  have ih0 := laws_markInt64S.mono_l k
  unfold laws_markInt64S.f
  repeat' first
      | (with_reducible exact ih0 _ _ _)
      | (with_reducible exact LeO.refl _)
      | (with_reducible exact LeO.none _)
      | (with_reducible refine LeO.ite ?_ ?_)
      | (with_reducible refine LeO.bind ?_ (fun _ => ?_))
      | exact ih0 _ _ _
      | exact LeO.none _
      | refine LeO.ite ?_ ?_
      | refine LeO.bind ?_ (fun _ => ?_)

end Go.Proofs.Ytjjockhekaccnaa.X
namespace Go.Proofs.Ytjjockhekaccnaa.X
open Go.RowKit Go.Proofs.YtjjockhekaccnaaW.PrintWords Go.Proofs.YtjjockhekaccnaaW.PrintLast Go.Proofs.YtjjockhekaccnaaW.PrintMore
attribute [local go_sem] max2_int min2_int max_two min_two max_three min_three max_four min_four   -- for this text's walks alone
set_option linter.unusedVariables false
set_option linter.unusedSimpArgs false

/-! ### laws_markPattern: function 56 -/
def laws_markPattern.f (k : Nat) (a0_0 : Int) (a0_1 : Int) (a0_2 : Int) (a0_3 : Int) (l0_4 : List Int) (a1 : Int) : Option (Int × List Int) := (laws_markInt64S.f k l0_4 a1).bind fun bt1072 => (some (bt1072.1, bt1072.2))
theorem laws_markPattern.mono : ∀ a0 a1 a2 a3 a4 a5 k, LeO (laws_markPattern.f k a0 a1 a2 a3 a4 a5) (laws_markPattern.f (k + 1) a0 a1 a2 a3 a4 a5) := by
  intro a0 a1 a2 a3 a4 a5 k
  unfold laws_markPattern.f
  repeat' first
      | (with_reducible exact laws_markInt64S.mono _ _ _)
      | (with_reducible exact LeO.refl _)
      | (with_reducible exact LeO.none _)
      | (with_reducible refine LeO.ite ?_ ?_)
      | (with_reducible refine LeO.bind ?_ (fun _ => ?_))
      | exact laws_markInt64S.mono _ _ _
      | exact LeO.none _
      | refine LeO.ite ?_ ?_
      | refine LeO.bind ?_ (fun _ => ?_)

end Go.Proofs.Ytjjockhekaccnaa.X
namespace Go.Proofs.Ytjjockhekaccnaa.X
open Go.RowKit Go.Proofs.YtjjockhekaccnaaW.PrintWords Go.Proofs.YtjjockhekaccnaaW.PrintLast Go.Proofs.YtjjockhekaccnaaW.PrintMore
attribute [local go_sem] max2_int min2_int max_two min_two max_three min_three max_four min_four   -- for this text's walks alone
set_option linter.unusedVariables false
set_option linter.unusedSimpArgs false

/-! ### laws_heldInt64S: function 73 -/
def laws_heldInt64S.l0 : Nat → List Int → Int → Int → Option (Int)
  | 0, _, _, _ => none
  | k + 1, x0, x1, x5 => if x5 < (x0.length : Int) then (if 0 ≤ x5 then (if (rd x0 x5) = x1 then (laws_heldInt64S.l0 k x0 (wrap64 (x1 + 1)) (wrap64 (x5 + 1))) else (some (-1))) else (none)) else (some x1)
def laws_heldInt64S.f (k : Nat) (l0 : List Int) (a1 : Int) : Option (Int) := laws_heldInt64S.l0 k l0 a1 0
theorem laws_heldInt64S.mono_l : ∀ k, (∀ y0 y1 y2, LeO (laws_heldInt64S.l0 k y0 y1 y2) (laws_heldInt64S.l0 (k + 1) y0 y1 y2))
  | 0 => fun _ _ _ r h => by simp [laws_heldInt64S.l0] at h
  | k + 1 => by
    have ih0 := laws_heldInt64S.mono_l k
    · intro y0 y1 y2
      unfold laws_heldInt64S.l0
      repeat' first
      | (with_reducible exact ih0 _ _ _)
      | (with_reducible exact LeO.refl _)
      | (with_reducible exact LeO.none _)
      | (with_reducible refine LeO.ite ?_ ?_)
      | (with_reducible refine LeO.bind ?_ (fun _ => ?_))
      | exact ih0 _ _ _
      | exact LeO.none _
      | refine LeO.ite ?_ ?_
      | refine LeO.bind ?_ (fun _ => ?_)
theorem laws_heldInt64S.mono : ∀ a0 a1 k, LeO (laws_heldInt64S.f k a0 a1) (laws_heldInt64S.f (k + 1) a0 a1) := by
  intro a0 a1 k
  have ih0 := laws_heldInt64S.mono_l k
  unfold laws_heldInt64S.f
  repeat' first
      | (with_reducible exact ih0 _ _ _)
      | (with_reducible exact LeO.refl _)
      | (with_reducible exact LeO.none _)
      | (with_reducible refine LeO.ite ?_ ?_)
      | (with_reducible refine LeO.bind ?_ (fun _ => ?_))
      | exact ih0 _ _ _
      | exact LeO.none _
      | refine LeO.ite ?_ ?_
      | refine LeO.bind ?_ (fun _ => ?_)

end Go.Proofs.Ytjjockhekaccnaa.X
namespace Go.Proofs.Ytjjockhekaccnaa.X
open Go.RowKit Go.Proofs.YtjjockhekaccnaaW.PrintWords Go.Proofs.YtjjockhekaccnaaW.PrintLast Go.Proofs.YtjjockhekaccnaaW.PrintMore
attribute [local go_sem] max2_int min2_int max_two min_two max_three min_three max_four min_four   -- for this text's walks alone
set_option linter.unusedVariables false
set_option linter.unusedSimpArgs false

/-! ### laws_heldPattern: function 57 -/
def laws_heldPattern.f (k : Nat) (a0_0 : Int) (a0_1 : Int) (a0_2 : Int) (a0_3 : Int) (l0_4 : List Int) (a1 : Int) : Option (Int) := (laws_heldInt64S.f k l0_4 a1).bind fun t1075 => (if t1075 < 0 then (some (-1)) else (some t1075))
theorem laws_heldPattern.mono : ∀ a0 a1 a2 a3 a4 a5 k, LeO (laws_heldPattern.f k a0 a1 a2 a3 a4 a5) (laws_heldPattern.f (k + 1) a0 a1 a2 a3 a4 a5) := by
  intro a0 a1 a2 a3 a4 a5 k
  unfold laws_heldPattern.f
  repeat' first
      | (with_reducible exact laws_heldInt64S.mono _ _ _)
      | (with_reducible exact LeO.refl _)
      | (with_reducible exact LeO.none _)
      | (with_reducible refine LeO.ite ?_ ?_)
      | (with_reducible refine LeO.bind ?_ (fun _ => ?_))
      | exact laws_heldInt64S.mono _ _ _
      | exact LeO.none _
      | refine LeO.ite ?_ ?_
      | refine LeO.bind ?_ (fun _ => ?_)

end Go.Proofs.Ytjjockhekaccnaa.X
namespace Go.Proofs.Ytjjockhekaccnaa.X
open Go.RowKit Go.Proofs.YtjjockhekaccnaaW.PrintWords Go.Proofs.YtjjockhekaccnaaW.PrintLast Go.Proofs.YtjjockhekaccnaaW.PrintMore
attribute [local go_sem] max2_int min2_int max_two min_two max_three min_three max_four min_four   -- for this text's walks alone
set_option linter.unusedVariables false
set_option linter.unusedSimpArgs false

/-! ### laws_FnExactMaskOf: function 13 -/
def laws_FnExactMaskOf.f (k : Nat) (a0_0 : Int) (a0_1 : Int) (a0_2 : Int) (a0_3 : Int) (l0_4 : List Int) (a1 : Int) : Option (Bool) := (laws_szPattern.f a0_0 a0_1 a0_2 a0_3 l0_4 1048576).bind fun t1077 => (if t1077 < 0 then (some true) else ((laws_toPattern.f k a0_0 a0_1 a0_2 a0_3 l0_4).bind fun bt1078 => ((spec_MaskOf.f k bt1078.1 bt1078.2.1 bt1078.2.2.1 bt1078.2.2.2.1 bt1078.2.2.2.2 a1).bind fun bt1085 => ((laws_toPattern.f k a0_0 a0_1 a0_2 a0_3 l0_4).bind fun bt1094 => ((impl_MaskOf.f k bt1094.1 bt1094.2.1 bt1094.2.2.1 bt1094.2.2.2.1 bt1094.2.2.2.2 a1).bind fun bt1102 => ((laws_eqPattern.f k bt1102.1 bt1102.2.1 bt1102.2.2.1 bt1102.2.2.2.1 bt1102.2.2.2.2.1 bt1085.1 bt1085.2.1 bt1085.2.2.1 bt1085.2.2.2.1 bt1085.2.2.2.2.1).bind fun t1111 => (if t1111 = true then (if bt1102.2.2.2.2.2 = bt1085.2.2.2.2.2 then ((laws_toPattern.f k a0_0 a0_1 a0_2 a0_3 l0_4).bind fun bt1112 => ((laws_eqPattern.f k bt1094.1 bt1094.2.1 bt1094.2.2.1 bt1094.2.2.2.1 bt1094.2.2.2.2 bt1112.1 bt1112.2.1 bt1112.2.2.1 bt1112.2.2.2.1 bt1112.2.2.2.2).bind fun t1119 => (if t1119 = true then ((laws_markPattern.f k bt1094.1 bt1094.2.1 bt1094.2.2.1 bt1094.2.2.2.1 bt1094.2.2.2.2 1).bind fun bt1120 => (if bt1120.1 < 0 then (none) else ((laws_eqPattern.f k bt1102.1 bt1102.2.1 bt1102.2.2.1 bt1102.2.2.2.1 bt1102.2.2.2.2.1 bt1085.1 bt1085.2.1 bt1085.2.2.1 bt1085.2.2.2.1 bt1085.2.2.2.2.1).bind fun t1122 => (if t1122 = true then ((laws_markPattern.f k bt1102.1 bt1102.2.1 bt1102.2.2.1 bt1102.2.2.2.1 bt1102.2.2.2.2.1 1).bind fun bt1123 => ((laws_heldPattern.f k bt1102.1 bt1102.2.1 bt1102.2.2.1 bt1102.2.2.2.1 bt1123.2 1).bind fun t1125 => (if t1125 < 0 then (none) else (if t1125 = bt1123.1 then ((laws_toPattern.f k a0_0 a0_1 a0_2 a0_3 l0_4).bind fun bt1126 => ((impl_MaskOf.f k bt1126.1 bt1126.2.1 bt1126.2.2.1 bt1126.2.2.2.1 bt1126.2.2.2.2 a1).bind fun bt1133 => ((laws_eqPattern.f k bt1133.1 bt1133.2.1 bt1133.2.2.1 bt1133.2.2.2.1 bt1133.2.2.2.2.1 bt1085.1 bt1085.2.1 bt1085.2.2.1 bt1085.2.2.2.1 bt1085.2.2.2.2.1).bind fun t1142 => (if t1142 = true then (if bt1133.2.2.2.2.2 = bt1085.2.2.2.2.2 then ((laws_heldPattern.f k bt1102.1 bt1102.2.1 bt1102.2.2.1 bt1102.2.2.2.1 bt1123.2 1).bind fun t1143 => (if t1143 < 0 then (none) else (if t1143 = bt1123.1 then (some true) else (none)))) else (none)) else (none))))) else (none))))) else (none))))) else (none)))) else (none)) else (none))))))))
theorem laws_FnExactMaskOf.mono : ∀ a0 a1 a2 a3 a4 a5 k, LeO (laws_FnExactMaskOf.f k a0 a1 a2 a3 a4 a5) (laws_FnExactMaskOf.f (k + 1) a0 a1 a2 a3 a4 a5) := by
  intro a0 a1 a2 a3 a4 a5 k
  unfold laws_FnExactMaskOf.f
  repeat' first
      | (with_reducible exact impl_MaskOf.mono _ _ _ _ _ _ _)
      | (with_reducible exact laws_eqPattern.mono _ _ _ _ _ _ _ _ _ _ _)
      | (with_reducible exact laws_heldPattern.mono _ _ _ _ _ _ _)
      | (with_reducible exact laws_markPattern.mono _ _ _ _ _ _ _)
      | (with_reducible exact laws_toPattern.mono _ _ _ _ _ _)
      | (with_reducible exact spec_MaskOf.mono _ _ _ _ _ _ _)
      | (with_reducible exact LeO.refl _)
      | (with_reducible exact LeO.none _)
      | (with_reducible refine LeO.ite ?_ ?_)
      | (with_reducible refine LeO.bind ?_ (fun _ => ?_))
      | exact impl_MaskOf.mono _ _ _ _ _ _ _
      | exact laws_eqPattern.mono _ _ _ _ _ _ _ _ _ _ _
      | exact laws_heldPattern.mono _ _ _ _ _ _ _
      | exact laws_markPattern.mono _ _ _ _ _ _ _
      | exact laws_toPattern.mono _ _ _ _ _ _
      | exact spec_MaskOf.mono _ _ _ _ _ _ _
      | exact LeO.none _
      | refine LeO.ite ?_ ?_
      | refine LeO.bind ?_ (fun _ => ?_)

end Go.Proofs.Ytjjockhekaccnaa.X
namespace Go.Proofs.Ytjjockhekaccnaa.X
open Go.RowKit Go.Proofs.YtjjockhekaccnaaW.PrintWords Go.Proofs.YtjjockhekaccnaaW.PrintLast Go.Proofs.YtjjockhekaccnaaW.PrintMore
attribute [local go_sem] max2_int min2_int max_two min_two max_three min_three max_four min_four   -- for this text's walks alone
set_option linter.unusedVariables false
set_option linter.unusedSimpArgs false

/-! ### spec_l01Mod: function 68 -/
def spec_l01Mod.f (a0 : Int) (a1 : Int) : Option (Int) := if a1 = 0 then (none) else (if (Int.tmod a0 a1) < 0 then (some (wrap64 ((Int.tmod a0 a1) + a1))) else (some (Int.tmod a0 a1)))

end Go.Proofs.Ytjjockhekaccnaa.X
namespace Go.Proofs.Ytjjockhekaccnaa.X
open Go.RowKit Go.Proofs.YtjjockhekaccnaaW.PrintWords Go.Proofs.YtjjockhekaccnaaW.PrintLast Go.Proofs.YtjjockhekaccnaaW.PrintMore
attribute [local go_sem] max2_int min2_int max_two min_two max_three min_three max_four min_four   -- for this text's walks alone
set_option linter.unusedVariables false
set_option linter.unusedSimpArgs false

/-! ### impl_mod: function 105 -/
def impl_mod.f (a0 : Int) (a1 : Int) : Option (Int) := if a1 = 0 then (none) else (some (Int.tmod (wrap64 ((Int.tmod a0 a1) + a1)) a1))

end Go.Proofs.Ytjjockhekaccnaa.X
namespace Go.Proofs.Ytjjockhekaccnaa.X
open Go.RowKit Go.Proofs.YtjjockhekaccnaaW.PrintWords Go.Proofs.YtjjockhekaccnaaW.PrintLast Go.Proofs.YtjjockhekaccnaaW.PrintMore
attribute [local go_sem] max2_int min2_int max_two min_two max_three min_three max_four min_four   -- for this text's walks alone
set_option linter.unusedVariables false
set_option linter.unusedSimpArgs false

/-! ### impl_Frieze_take: function 70 -/
def impl_Frieze_take.f (a0_0 : Int) (a0_1 : Int) (l0_2 : List Int) (a1_0 : Bool) (a1_1 : Bool) (a1_2 : Int) (a2 : Int) (a3 : Int) : Option (Int × Int) := if a1_0 = true then (if a1_1 = true then ((impl_mod.f (wrap64 ((wrap64 (-a2)) + a1_2)) a0_1).bind fun t142 => (some (t142, wrap64 ((wrap64 (a0_0 - 1)) - a3)))) else ((impl_mod.f (wrap64 ((wrap64 (-a2)) + a1_2)) a0_1).bind fun t143 => (some (t143, a3)))) else (if a1_1 = true then ((impl_mod.f (wrap64 (a2 + a1_2)) a0_1).bind fun t144 => (some (t144, wrap64 ((wrap64 (a0_0 - 1)) - a3)))) else ((impl_mod.f (wrap64 (a2 + a1_2)) a0_1).bind fun t145 => (some (t145, a3))))

end Go.Proofs.Ytjjockhekaccnaa.X
namespace Go.Proofs.Ytjjockhekaccnaa.X
open Go.RowKit Go.Proofs.YtjjockhekaccnaaW.PrintWords Go.Proofs.YtjjockhekaccnaaW.PrintLast Go.Proofs.YtjjockhekaccnaaW.PrintMore
attribute [local go_sem] max2_int min2_int max_two min_two max_three min_three max_four min_four   -- for this text's walks alone
set_option linter.unusedVariables false
set_option linter.unusedSimpArgs false

/-! ### impl_Frieze_at: function 71 -/
def impl_Frieze_at.f (a0_0 : Int) (a0_1 : Int) (l0_2 : List Int) (a1 : Int) (a2 : Int) : Option (Int) := (impl_mod.f a1 a0_1).bind fun t147 => (if 0 ≤ (wrap64 ((wrap64 (a2 * a0_1)) + t147)) then (if (wrap64 ((wrap64 (a2 * a0_1)) + t147)) < (l0_2.length : Int) then (some (rd l0_2 (wrap64 ((wrap64 (a2 * a0_1)) + t147)))) else (none)) else (none))

end Go.Proofs.Ytjjockhekaccnaa.X
namespace Go.Proofs.Ytjjockhekaccnaa.X
open Go.RowKit Go.Proofs.YtjjockhekaccnaaW.PrintWords Go.Proofs.YtjjockhekaccnaaW.PrintLast Go.Proofs.YtjjockhekaccnaaW.PrintMore
attribute [local go_sem] max2_int min2_int max_two min_two max_three min_three max_four min_four   -- for this text's walks alone
set_option linter.unusedVariables false
set_option linter.unusedSimpArgs false

/-! ### impl_Frieze_keeps: function 104 -/
mutual
def impl_Frieze_keeps.l0 : Nat → Int → Int → Int → Int → List Int → Bool → Bool → Int → Option (Bool)
  | 0, _, _, _, _, _, _, _, _ => none
  | k + 1, x10, x11, x150000, x150001, x150002, x151000, x151001, x151002 => if x11 < x10 then (impl_Frieze_keeps.l1 k x11 x10 x11 x150001 0 x150000 x150001 x150002 x151000 x151001 x151002) else (some true)
def impl_Frieze_keeps.l1 : Nat → Int → Int → Int → Int → Int → Int → Int → List Int → Bool → Bool → Int → Option (Bool)
  | 0, _, _, _, _, _, _, _, _, _, _, _ => none
  | k + 1, x5, x10, x11, x15, x16, x150000, x150001, x150002, x151000, x151001, x151002 => if x16 < x15 then ((impl_Frieze_take.f x150000 x150001 x150002 x151000 x151001 x151002 x16 x5).bind fun bt151 => ((impl_Frieze_at.f x150000 x150001 x150002 bt151.1 bt151.2).bind fun t153 => ((impl_Frieze_at.f x150000 x150001 x150002 x16 x5).bind fun t154 => (if t153 = t154 then (impl_Frieze_keeps.l1 k x5 x10 x11 x15 (wrap64 (x16 + 1)) x150000 x150001 x150002 x151000 x151001 x151002) else (some false))))) else (impl_Frieze_keeps.l0 k x10 (wrap64 (x11 + 1)) x150000 x150001 x150002 x151000 x151001 x151002)
end
def impl_Frieze_keeps.f (k : Nat) (a0_0 : Int) (a0_1 : Int) (l0_2 : List Int) (a1_0 : Bool) (a1_1 : Bool) (a1_2 : Int) : Option (Bool) := impl_Frieze_keeps.l0 k a0_0 0 a0_0 a0_1 l0_2 a1_0 a1_1 a1_2
theorem impl_Frieze_keeps.mono_l : ∀ k, (∀ y0 y1 y2 y3 y4 y5 y6 y7, LeO (impl_Frieze_keeps.l0 k y0 y1 y2 y3 y4 y5 y6 y7) (impl_Frieze_keeps.l0 (k + 1) y0 y1 y2 y3 y4 y5 y6 y7)) ∧ (∀ y0 y1 y2 y3 y4 y5 y6 y7 y8 y9 y10, LeO (impl_Frieze_keeps.l1 k y0 y1 y2 y3 y4 y5 y6 y7 y8 y9 y10) (impl_Frieze_keeps.l1 (k + 1) y0 y1 y2 y3 y4 y5 y6 y7 y8 y9 y10))
  | 0 => ⟨fun _ _ _ _ _ _ _ _ r h => by simp [impl_Frieze_keeps.l0] at h, fun _ _ _ _ _ _ _ _ _ _ _ r h => by simp [impl_Frieze_keeps.l1] at h⟩
  | k + 1 => by
    obtain ⟨ih0, ih1⟩ := impl_Frieze_keeps.mono_l k
    refine ⟨?_, ?_⟩
    · intro y0 y1 y2 y3 y4 y5 y6 y7
      unfold impl_Frieze_keeps.l0
      repeat' first
      | (with_reducible exact ih0 _ _ _ _ _ _ _ _)
      | (with_reducible exact ih1 _ _ _ _ _ _ _ _ _ _ _)
      | (with_reducible exact LeO.refl _)
      | (with_reducible exact LeO.none _)
      | (with_reducible refine LeO.ite ?_ ?_)
      | (with_reducible refine LeO.bind ?_ (fun _ => ?_))
      | exact ih0 _ _ _ _ _ _ _ _
      | exact ih1 _ _ _ _ _ _ _ _ _ _ _
      | exact LeO.none _
      | refine LeO.ite ?_ ?_
      | refine LeO.bind ?_ (fun _ => ?_)
    · intro y0 y1 y2 y3 y4 y5 y6 y7 y8 y9 y10
      unfold impl_Frieze_keeps.l1
      repeat' first
      | (with_reducible exact ih0 _ _ _ _ _ _ _ _)
      | (with_reducible exact ih1 _ _ _ _ _ _ _ _ _ _ _)
      | (with_reducible exact LeO.refl _)
      | (with_reducible exact LeO.none _)
      | (with_reducible refine LeO.ite ?_ ?_)
      | (with_reducible refine LeO.bind ?_ (fun _ => ?_))
      | exact ih0 _ _ _ _ _ _ _ _
      | exact ih1 _ _ _ _ _ _ _ _ _ _ _
      | exact LeO.none _
      | refine LeO.ite ?_ ?_
      | refine LeO.bind ?_ (fun _ => ?_)
theorem impl_Frieze_keeps.mono : ∀ a0 a1 a2 a3 a4 a5 k, LeO (impl_Frieze_keeps.f k a0 a1 a2 a3 a4 a5) (impl_Frieze_keeps.f (k + 1) a0 a1 a2 a3 a4 a5) := by
  intro a0 a1 a2 a3 a4 a5 k
  obtain ⟨ih0, ih1⟩ := impl_Frieze_keeps.mono_l k
  unfold impl_Frieze_keeps.f
  repeat' first
      | (with_reducible exact ih0 _ _ _ _ _ _ _ _)
      | (with_reducible exact ih1 _ _ _ _ _ _ _ _ _ _ _)
      | (with_reducible exact LeO.refl _)
      | (with_reducible exact LeO.none _)
      | (with_reducible refine LeO.ite ?_ ?_)
      | (with_reducible refine LeO.bind ?_ (fun _ => ?_))
      | exact ih0 _ _ _ _ _ _ _ _
      | exact ih1 _ _ _ _ _ _ _ _ _ _ _
      | exact LeO.none _
      | refine LeO.ite ?_ ?_
      | refine LeO.bind ?_ (fun _ => ?_)

end Go.Proofs.Ytjjockhekaccnaa.X
namespace Go.Proofs.Ytjjockhekaccnaa.X
open Go.RowKit Go.Proofs.YtjjockhekaccnaaW.PrintWords Go.Proofs.YtjjockhekaccnaaW.PrintLast Go.Proofs.YtjjockhekaccnaaW.PrintMore
attribute [local go_sem] max2_int min2_int max_two min_two max_three min_three max_four min_four   -- for this text's walks alone
set_option linter.unusedVariables false
set_option linter.unusedSimpArgs false

/-! ### impl_Frieze_period: function 63 -/
def impl_Frieze_period.l0 : Nat → Int → Int → Int → List Int → Option (Int)
  | 0, _, _, _, _ => none
  | k + 1, x3, x156000, x156001, x156002 => (impl_Frieze_keeps.f k x156000 x156001 x156002 false false x3).bind fun t156 => (if t156 = true then (some x3) else (impl_Frieze_period.l0 k (wrap64 (x3 + 1)) x156000 x156001 x156002))
def impl_Frieze_period.f (k : Nat) (a0_0 : Int) (a0_1 : Int) (l0_2 : List Int) : Option (Int) := impl_Frieze_period.l0 k 1 a0_0 a0_1 l0_2
theorem impl_Frieze_period.mono_l : ∀ k, (∀ y0 y1 y2 y3, LeO (impl_Frieze_period.l0 k y0 y1 y2 y3) (impl_Frieze_period.l0 (k + 1) y0 y1 y2 y3))
  | 0 => fun _ _ _ _ r h => by simp [impl_Frieze_period.l0] at h
  | k + 1 => by
    have ih0 := impl_Frieze_period.mono_l k
    · intro y0 y1 y2 y3
      unfold impl_Frieze_period.l0
      repeat' first
      | (with_reducible exact ih0 _ _ _ _)
      | (with_reducible exact impl_Frieze_keeps.mono _ _ _ _ _ _ _)
      | (with_reducible exact LeO.refl _)
      | (with_reducible exact LeO.none _)
      | (with_reducible refine LeO.ite ?_ ?_)
      | (with_reducible refine LeO.bind ?_ (fun _ => ?_))
      | exact ih0 _ _ _ _
      | exact impl_Frieze_keeps.mono _ _ _ _ _ _ _
      | exact LeO.none _
      | refine LeO.ite ?_ ?_
      | refine LeO.bind ?_ (fun _ => ?_)
theorem impl_Frieze_period.mono : ∀ a0 a1 a2 k, LeO (impl_Frieze_period.f k a0 a1 a2) (impl_Frieze_period.f (k + 1) a0 a1 a2) := by
  intro a0 a1 a2 k
  have ih0 := impl_Frieze_period.mono_l k
  unfold impl_Frieze_period.f
  repeat' first
      | (with_reducible exact ih0 _ _ _ _)
      | (with_reducible exact impl_Frieze_keeps.mono _ _ _ _ _ _ _)
      | (with_reducible exact LeO.refl _)
      | (with_reducible exact LeO.none _)
      | (with_reducible refine LeO.ite ?_ ?_)
      | (with_reducible refine LeO.bind ?_ (fun _ => ?_))
      | exact ih0 _ _ _ _
      | exact impl_Frieze_keeps.mono _ _ _ _ _ _ _
      | exact LeO.none _
      | refine LeO.ite ?_ ?_
      | refine LeO.bind ?_ (fun _ => ?_)

end Go.Proofs.Ytjjockhekaccnaa.X
namespace Go.Proofs.Ytjjockhekaccnaa.X
open Go.RowKit Go.Proofs.YtjjockhekaccnaaW.PrintWords Go.Proofs.YtjjockhekaccnaaW.PrintLast Go.Proofs.YtjjockhekaccnaaW.PrintMore
attribute [local go_sem] max2_int min2_int max_two min_two max_three min_three max_four min_four   -- for this text's walks alone
set_option linter.unusedVariables false
set_option linter.unusedSimpArgs false

/-! ### spec_IsFrieze: function 48 -/
def spec_IsFrieze.f (k : Nat) (a0_0 : Int) (a0_1 : Int) (l0_2 : List Int) : Option (Bool) := (spec_l01In.f a0_0 1 6).bind fun t106 => (if t106 = true then ((spec_l01In.f a0_1 1 24).bind fun t107 => (if t107 = true then (if (l0_2.length : Int) = (wrap64 (a0_0 * a0_1)) then ((spec_l01Within.f k l0_2 144 0 9).bind fun t108 => (some t108)) else (some false)) else (some false))) else (some false))
theorem spec_IsFrieze.mono : ∀ a0 a1 a2 k, LeO (spec_IsFrieze.f k a0 a1 a2) (spec_IsFrieze.f (k + 1) a0 a1 a2) := by
  intro a0 a1 a2 k
  unfold spec_IsFrieze.f
  repeat' first
      | (with_reducible exact spec_l01Within.mono _ _ _ _ _)
      | (with_reducible exact LeO.refl _)
      | (with_reducible exact LeO.none _)
      | (with_reducible refine LeO.ite ?_ ?_)
      | (with_reducible refine LeO.bind ?_ (fun _ => ?_))
      | exact spec_l01Within.mono _ _ _ _ _
      | exact LeO.none _
      | refine LeO.ite ?_ ?_
      | refine LeO.bind ?_ (fun _ => ?_)

end Go.Proofs.Ytjjockhekaccnaa.X
namespace Go.Proofs.Ytjjockhekaccnaa.X
open Go.RowKit Go.Proofs.YtjjockhekaccnaaW.PrintWords Go.Proofs.YtjjockhekaccnaaW.PrintLast Go.Proofs.YtjjockhekaccnaaW.PrintMore
attribute [local go_sem] max2_int min2_int max_two min_two max_three min_three max_four min_four   -- for this text's walks alone
set_option linter.unusedVariables false
set_option linter.unusedSimpArgs false

/-! ### spec_l08Image: function 66 -/
def spec_l08Image.f (a0_0 : Int) (a0_1 : Int) (l0_2 : List Int) (a1_0 : Bool) (a1_1 : Bool) (a1_2 : Int) (a2 : Int) (a3 : Int) : Option (Int × Int) := if a1_0 = true then (if a1_1 = true then (some (wrap64 (a1_2 + (wrap64 (-a2))), wrap64 ((wrap64 (a0_0 - 1)) - a3))) else (some (wrap64 (a1_2 + (wrap64 (-a2))), a3))) else (if a1_1 = true then (some (wrap64 (a1_2 + a2), wrap64 ((wrap64 (a0_0 - 1)) - a3))) else (some (wrap64 (a1_2 + a2), a3)))

end Go.Proofs.Ytjjockhekaccnaa.X
namespace Go.Proofs.Ytjjockhekaccnaa.X
open Go.RowKit Go.Proofs.YtjjockhekaccnaaW.PrintWords Go.Proofs.YtjjockhekaccnaaW.PrintLast Go.Proofs.YtjjockhekaccnaaW.PrintMore
attribute [local go_sem] max2_int min2_int max_two min_two max_three min_three max_four min_four   -- for this text's walks alone
set_option linter.unusedVariables false
set_option linter.unusedSimpArgs false

/-! ### spec_l08At: function 67 -/
def spec_l08At.f (a0_0 : Int) (a0_1 : Int) (l0_2 : List Int) (a1 : Int) (a2 : Int) : Option (Int) := (spec_l01Mod.f a1 a0_1).bind fun t112 => (if 0 ≤ (wrap64 ((wrap64 (a2 * a0_1)) + t112)) then (if (wrap64 ((wrap64 (a2 * a0_1)) + t112)) < (l0_2.length : Int) then (some (rd l0_2 (wrap64 ((wrap64 (a2 * a0_1)) + t112)))) else (none)) else (none))

end Go.Proofs.Ytjjockhekaccnaa.X
namespace Go.Proofs.Ytjjockhekaccnaa.X
open Go.RowKit Go.Proofs.YtjjockhekaccnaaW.PrintWords Go.Proofs.YtjjockhekaccnaaW.PrintLast Go.Proofs.YtjjockhekaccnaaW.PrintMore
attribute [local go_sem] max2_int min2_int max_two min_two max_three min_three max_four min_four   -- for this text's walks alone
set_option linter.unusedVariables false
set_option linter.unusedSimpArgs false

/-! ### spec_l08Keeps: function 103 -/
mutual
def spec_l08Keeps.l0 : Nat → Int → Int → Int → List Int → Bool → Bool → Int → Option (Bool)
  | 0, _, _, _, _, _, _, _ => none
  | k + 1, x5, x115000, x115001, x115002, x116000, x116001, x116002 => if x5 < x115000 then (spec_l08Keeps.l1 k x5 0 x115000 x115001 x115002 x116000 x116001 x116002) else (some true)
def spec_l08Keeps.l1 : Nat → Int → Int → Int → Int → List Int → Bool → Bool → Int → Option (Bool)
  | 0, _, _, _, _, _, _, _, _ => none
  | k + 1, x5, x6, x115000, x115001, x115002, x116000, x116001, x116002 => if x6 < x115001 then ((spec_l08Image.f x115000 x115001 x115002 x116000 x116001 x116002 x6 x5).bind fun bt116 => ((spec_l08At.f x115000 x115001 x115002 bt116.1 bt116.2).bind fun t118 => ((spec_l08At.f x115000 x115001 x115002 x6 x5).bind fun t119 => (if t118 = t119 then (spec_l08Keeps.l1 k x5 (wrap64 (x6 + 1)) x115000 x115001 x115002 x116000 x116001 x116002) else (some false))))) else (spec_l08Keeps.l0 k (wrap64 (x5 + 1)) x115000 x115001 x115002 x116000 x116001 x116002)
end
def spec_l08Keeps.f (k : Nat) (a0_0 : Int) (a0_1 : Int) (l0_2 : List Int) (a1_0 : Bool) (a1_1 : Bool) (a1_2 : Int) : Option (Bool) := spec_l08Keeps.l0 k 0 a0_0 a0_1 l0_2 a1_0 a1_1 a1_2
theorem spec_l08Keeps.mono_l : ∀ k, (∀ y0 y1 y2 y3 y4 y5 y6, LeO (spec_l08Keeps.l0 k y0 y1 y2 y3 y4 y5 y6) (spec_l08Keeps.l0 (k + 1) y0 y1 y2 y3 y4 y5 y6)) ∧ (∀ y0 y1 y2 y3 y4 y5 y6 y7, LeO (spec_l08Keeps.l1 k y0 y1 y2 y3 y4 y5 y6 y7) (spec_l08Keeps.l1 (k + 1) y0 y1 y2 y3 y4 y5 y6 y7))
  | 0 => ⟨fun _ _ _ _ _ _ _ r h => by simp [spec_l08Keeps.l0] at h, fun _ _ _ _ _ _ _ _ r h => by simp [spec_l08Keeps.l1] at h⟩
  | k + 1 => by
    obtain ⟨ih0, ih1⟩ := spec_l08Keeps.mono_l k
    refine ⟨?_, ?_⟩
    · intro y0 y1 y2 y3 y4 y5 y6
      unfold spec_l08Keeps.l0
      repeat' first
      | (with_reducible exact ih0 _ _ _ _ _ _ _)
      | (with_reducible exact ih1 _ _ _ _ _ _ _ _)
      | (with_reducible exact LeO.refl _)
      | (with_reducible exact LeO.none _)
      | (with_reducible refine LeO.ite ?_ ?_)
      | (with_reducible refine LeO.bind ?_ (fun _ => ?_))
      | exact ih0 _ _ _ _ _ _ _
      | exact ih1 _ _ _ _ _ _ _ _
      | exact LeO.none _
      | refine LeO.ite ?_ ?_
      | refine LeO.bind ?_ (fun _ => ?_)
    · intro y0 y1 y2 y3 y4 y5 y6 y7
      unfold spec_l08Keeps.l1
      repeat' first
      | (with_reducible exact ih0 _ _ _ _ _ _ _)
      | (with_reducible exact ih1 _ _ _ _ _ _ _ _)
      | (with_reducible exact LeO.refl _)
      | (with_reducible exact LeO.none _)
      | (with_reducible refine LeO.ite ?_ ?_)
      | (with_reducible refine LeO.bind ?_ (fun _ => ?_))
      | exact ih0 _ _ _ _ _ _ _
      | exact ih1 _ _ _ _ _ _ _ _
      | exact LeO.none _
      | refine LeO.ite ?_ ?_
      | refine LeO.bind ?_ (fun _ => ?_)
theorem spec_l08Keeps.mono : ∀ a0 a1 a2 a3 a4 a5 k, LeO (spec_l08Keeps.f k a0 a1 a2 a3 a4 a5) (spec_l08Keeps.f (k + 1) a0 a1 a2 a3 a4 a5) := by
  intro a0 a1 a2 a3 a4 a5 k
  obtain ⟨ih0, ih1⟩ := spec_l08Keeps.mono_l k
  unfold spec_l08Keeps.f
  repeat' first
      | (with_reducible exact ih0 _ _ _ _ _ _ _)
      | (with_reducible exact ih1 _ _ _ _ _ _ _ _)
      | (with_reducible exact LeO.refl _)
      | (with_reducible exact LeO.none _)
      | (with_reducible refine LeO.ite ?_ ?_)
      | (with_reducible refine LeO.bind ?_ (fun _ => ?_))
      | exact ih0 _ _ _ _ _ _ _
      | exact ih1 _ _ _ _ _ _ _ _
      | exact LeO.none _
      | refine LeO.ite ?_ ?_
      | refine LeO.bind ?_ (fun _ => ?_)

end Go.Proofs.Ytjjockhekaccnaa.X
namespace Go.Proofs.Ytjjockhekaccnaa.X
open Go.RowKit Go.Proofs.YtjjockhekaccnaaW.PrintWords Go.Proofs.YtjjockhekaccnaaW.PrintLast Go.Proofs.YtjjockhekaccnaaW.PrintMore
attribute [local go_sem] max2_int min2_int max_two min_two max_three min_three max_four min_four   -- for this text's walks alone
set_option linter.unusedVariables false
set_option linter.unusedSimpArgs false

/-! ### spec_l08Period: function 61 -/
def spec_l08Period.l0 : Nat → Int → Int → Int → List Int → Option (Int)
  | 0, _, _, _, _ => none
  | k + 1, x3, x121000, x121001, x121002 => (spec_l08Keeps.f k x121000 x121001 x121002 false false x3).bind fun t121 => (if t121 = true then (some x3) else (spec_l08Period.l0 k (wrap64 (x3 + 1)) x121000 x121001 x121002))
def spec_l08Period.f (k : Nat) (a0_0 : Int) (a0_1 : Int) (l0_2 : List Int) : Option (Int) := spec_l08Period.l0 k 1 a0_0 a0_1 l0_2
theorem spec_l08Period.mono_l : ∀ k, (∀ y0 y1 y2 y3, LeO (spec_l08Period.l0 k y0 y1 y2 y3) (spec_l08Period.l0 (k + 1) y0 y1 y2 y3))
  | 0 => fun _ _ _ _ r h => by simp [spec_l08Period.l0] at h
  | k + 1 => by
    have ih0 := spec_l08Period.mono_l k
    · intro y0 y1 y2 y3
      unfold spec_l08Period.l0
      repeat' first
      | (with_reducible exact ih0 _ _ _ _)
      | (with_reducible exact spec_l08Keeps.mono _ _ _ _ _ _ _)
      | (with_reducible exact LeO.refl _)
      | (with_reducible exact LeO.none _)
      | (with_reducible refine LeO.ite ?_ ?_)
      | (with_reducible refine LeO.bind ?_ (fun _ => ?_))
      | exact ih0 _ _ _ _
      | exact spec_l08Keeps.mono _ _ _ _ _ _ _
      | exact LeO.none _
      | refine LeO.ite ?_ ?_
      | refine LeO.bind ?_ (fun _ => ?_)
theorem spec_l08Period.mono : ∀ a0 a1 a2 k, LeO (spec_l08Period.f k a0 a1 a2) (spec_l08Period.f (k + 1) a0 a1 a2) := by
  intro a0 a1 a2 k
  have ih0 := spec_l08Period.mono_l k
  unfold spec_l08Period.f
  repeat' first
      | (with_reducible exact ih0 _ _ _ _)
      | (with_reducible exact spec_l08Keeps.mono _ _ _ _ _ _ _)
      | (with_reducible exact LeO.refl _)
      | (with_reducible exact LeO.none _)
      | (with_reducible refine LeO.ite ?_ ?_)
      | (with_reducible refine LeO.bind ?_ (fun _ => ?_))
      | exact ih0 _ _ _ _
      | exact spec_l08Keeps.mono _ _ _ _ _ _ _
      | exact LeO.none _
      | refine LeO.ite ?_ ?_
      | refine LeO.bind ?_ (fun _ => ?_)

end Go.Proofs.Ytjjockhekaccnaa.X
namespace Go.Proofs.Ytjjockhekaccnaa.X
open Go.RowKit Go.Proofs.YtjjockhekaccnaaW.PrintWords Go.Proofs.YtjjockhekaccnaaW.PrintLast Go.Proofs.YtjjockhekaccnaaW.PrintMore
attribute [local go_sem] max2_int min2_int max_two min_two max_three min_three max_four min_four   -- for this text's walks alone
set_option linter.unusedVariables false
set_option linter.unusedSimpArgs false

/-! ### impl_IsFrieze: function 47 -/
def impl_IsFrieze.f (a0_0 : Int) (a0_1 : Int) (l0_2 : List Int) : Option (Bool) := (impl_within.f a0_0 1 6).bind fun t137 => (if t137 = true then ((impl_within.f a0_1 1 24).bind fun t138 => (if t138 = true then (if (l0_2.length : Int) = (wrap64 (a0_0 * a0_1)) then ((impl_allWithin.f l0_2 0 9).bind fun t139 => (some t139)) else (some false)) else (some false))) else (some false))

end Go.Proofs.Ytjjockhekaccnaa.X
