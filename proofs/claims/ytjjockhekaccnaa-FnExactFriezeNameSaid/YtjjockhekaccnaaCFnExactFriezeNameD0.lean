/- Part of the proof of the law FnExactFriezeName: the functions that the code computes. No condition of its own. -/
import Derived.Test.YtjjockhekaccnaaCFnExactFriezeNameV0
import Derived.Test.YtjjockhekaccnaaProg
import Derived.Below
import Derived.Deep.Draws
import Derived.Deep.AppendLies
import Derived.Maps.AppendAt
import Derived.OwnWalk
import Derived.Laws.BytesArg
import Derived.Laws.MakeOwn
import Derived.Laws.OwnMore
import Derived.Deep.OwnRows
import Derived.Tactics
import Derived.Lib.ConvBytes
import Derived.Laws.Slices
import Derived.WalkKit
import Derived.KernelRfl
import Derived.RowKit3
import Derived.Deep.LoopGhost
import Derived.Deep.QuietTactic
import Derived.BigQuiet
import Derived.WideLaws
import Derived.Deep.DeepCutAuto
import Derived.Deep.CutBlock
import Derived.Deep.RegionHeld3
import Derived.Laws.Rows
import Derived.Lib.AppendStr
import Derived.ArgAppend
import Derived.Laws.IdiomCopy
import Derived.OrdersHeld
import Derived.Laws.BitsLemmas
import Derived.RowKit
namespace Go.Proofs.Ytjjockhekaccnaa.X
open Go.RowKit Go.Proofs.YtjjockhekaccnaaW.PrintWords Go.Proofs.YtjjockhekaccnaaW.PrintLast Go.Proofs.YtjjockhekaccnaaW.PrintMore
attribute [local go_sem] max2_int min2_int max_two min_two max_three min_three max_four min_four   -- for this text's walks alone
set_option linter.unusedVariables false
set_option linter.unusedSimpArgs false
def errW : Option Int → Value
  | none => .nilIface
  | some c => .iface 0 (.int .i64 c)
theorem errW_none : errW none = .nilIface := rfl
theorem errW_some (c : Int) : errW (some c) = .iface 0 (.int .i64 c) := rfl
theorem info2 : (Try.prog.info? 2).map (fun i => (i.zero, i.size, i.bytes)) = some (some (.int .i64 0), 1, 8) := by kernel_rfl
theorem info9 : (Try.prog.info? 9).map (fun i => (i.zero, i.size, i.bytes)) = some (some (.string ⟨#[]⟩), 1, 16) := by kernel_rfl
theorem info36 : (Try.prog.info? 36).map (fun i => (i.zero, i.size, i.bytes)) = some (some (.agg #[(.bool false), (.bool false), (.int .i64 0)]), 3, 16) := by kernel_rfl
theorem info121 : (Try.prog.info? 121).map (fun i => (i.zero, i.size, i.bytes)) = some (some (.agg #[(.int .i64 0), (.int .i64 0)]), 2, 16) := by kernel_rfl
-- the values' own types
def rd_L1 (xs : List (List Int)) (i : Int) : (List Int) := xs.getD i.toNat ([] : List Int)
theorem at_L1 {w : World} {A : Option Addr} {n : Nat} {xs : List (List Int)} (h : Kd.C (Kd.slice 2 (Kd.int .i64)) w A n xs) (i : Int) (h0 : 0 ≤ i) (h1 : i < n) : ∃ ad A0 c0, A = some ad ∧ w.cell? (ad.add i.toNat) = some (.slice A0 (rd_L1 xs i).length c0) ∧ (rd_L1 xs i).length ≤ c0 ∧ (Kd.int .i64).C w A0 (rd_L1 xs i).length (rd_L1 xs i) := by
  obtain ⟨ad, c, e, _, hK, hc0⟩ := Kd.C_get h ([] : List Int) i h0 h1
  have hc : ∀ j u, c[j]? = some u → w.cell? (ad.add (i.toNat * 1 + j)) = some u := hc0
  obtain ⟨A0, c0, rfl, l0, g0⟩ := hK
  exact ⟨ad, A0, c0, e, by have hq := hc 0 _ rfl; rwa [Nat.mul_one, Nat.add_zero] at hq, l0, g0⟩
structure S36 where
  f0 : Bool
  f1 : Bool
  f2 : Int
def z36 : S36 := ⟨false, false, (0 : Int)⟩
def k36 : Kd S36 := Kd.iso (Kd.pair Kd.bool (Kd.pair Kd.bool (Kd.int .i64))) (fun x : S36 => (x.f0, x.f1, x.f2))
theorem k36_open {w : World} {x : S36} {cs : List Value} (h : k36.K w x cs) : cs = [.bool x.f0, .bool x.f1, .int .i64 x.f2] := by
  obtain ⟨_, _, rfl, rfl, ⟨_, _, rfl, rfl, rfl⟩⟩ := h
  exact rfl
theorem k36_openM {w : World} {base : Nat} {ok : Nat → Prop} {x : S36} {cs : List Value} (h : k36.M w base ok x cs) : cs = [.bool x.f0, .bool x.f1, .int .i64 x.f2] := by
  obtain ⟨_, _, rfl, rfl, ⟨_, _, rfl, rfl, rfl⟩⟩ := h
  exact rfl
theorem k36_mk (w : World) (x : S36)  : k36.K w x [.bool x.f0, .bool x.f1, .int .i64 x.f2] := ⟨[.bool x.f0], [.bool x.f1, .int .i64 x.f2], rfl, rfl, ⟨[.bool x.f1], [.int .i64 x.f2], rfl, rfl, rfl⟩⟩
theorem k36_mkM (w : World) (base : Nat) (ok : Nat → Prop) (x : S36)  : k36.M w base ok x [.bool x.f0, .bool x.f1, .int .i64 x.f2] := ⟨[.bool x.f0], [.bool x.f1, .int .i64 x.f2], rfl, rfl, ⟨[.bool x.f1], [.int .i64 x.f2], rfl, rfl, rfl⟩⟩
def rd_T36 (xs : List S36) (i : Int) : S36 := xs.getD i.toNat z36
theorem at_T36 {w : World} {A : Option Addr} {n : Nat} {xs : List S36} (h : Kd.C k36 w A n xs) (i : Int) (h0 : 0 ≤ i) (h1 : i < n) : ∃ ad , A = some ad ∧ w.cell? (ad.add (i.toNat * 3)) = some (.bool (rd_T36 xs i).f0) ∧ w.cell? ⟨(ad.add (i.toNat * 3)).block, (ad.add (i.toNat * 3)).off + 1, none⟩ = some (.bool (rd_T36 xs i).f1) ∧ w.cell? ⟨(ad.add (i.toNat * 3)).block, (ad.add (i.toNat * 3)).off + 2, none⟩ = some (.int .i64 (rd_T36 xs i).f2) := by
  obtain ⟨ad, c, e, _, hK, hc0⟩ := Kd.C_get h z36 i h0 h1
  have hc : ∀ j u, c[j]? = some u → w.cell? (ad.add (i.toNat * 3 + j)) = some u := hc0
  obtain rfl := k36_open hK
  exact ⟨ad, e, hc 0 _ rfl, by rw [← add_field _ _ 1 (by omega)]; exact hc 1 _ rfl, by rw [← add_field _ _ 2 (by omega)]; exact hc 2 _ rfl⟩
structure S121 where
  f0 : Int
  f1 : Int
def z121 : S121 := ⟨(0 : Int), (0 : Int)⟩
def k121 : Kd S121 := Kd.iso (Kd.pair (Kd.int .i64) (Kd.int .i64)) (fun x : S121 => (x.f0, x.f1))
theorem k121_open {w : World} {x : S121} {cs : List Value} (h : k121.K w x cs) : cs = [.int .i64 x.f0, .int .i64 x.f1] := by
  obtain ⟨_, _, rfl, rfl, rfl⟩ := h
  exact rfl
theorem k121_openM {w : World} {base : Nat} {ok : Nat → Prop} {x : S121} {cs : List Value} (h : k121.M w base ok x cs) : cs = [.int .i64 x.f0, .int .i64 x.f1] := by
  obtain ⟨_, _, rfl, rfl, rfl⟩ := h
  exact rfl
theorem k121_mk (w : World) (x : S121)  : k121.K w x [.int .i64 x.f0, .int .i64 x.f1] := ⟨[.int .i64 x.f0], [.int .i64 x.f1], rfl, rfl, rfl⟩
theorem k121_mkM (w : World) (base : Nat) (ok : Nat → Prop) (x : S121)  : k121.M w base ok x [.int .i64 x.f0, .int .i64 x.f1] := ⟨[.int .i64 x.f0], [.int .i64 x.f1], rfl, rfl, rfl⟩
def rd_T121 (xs : List S121) (i : Int) : S121 := xs.getD i.toNat z121
theorem at_T121 {w : World} {A : Option Addr} {n : Nat} {xs : List S121} (h : Kd.C k121 w A n xs) (i : Int) (h0 : 0 ≤ i) (h1 : i < n) : ∃ ad , A = some ad ∧ w.cell? (ad.add (i.toNat * 2)) = some (.int .i64 (rd_T121 xs i).f0) ∧ w.cell? ⟨(ad.add (i.toNat * 2)).block, (ad.add (i.toNat * 2)).off + 1, none⟩ = some (.int .i64 (rd_T121 xs i).f1) := by
  obtain ⟨ad, c, e, _, hK, hc0⟩ := Kd.C_get h z121 i h0 h1
  have hc : ∀ j u, c[j]? = some u → w.cell? (ad.add (i.toNat * 2 + j)) = some u := hc0
  obtain rfl := k121_open hK
  exact ⟨ad, e, hc 0 _ rfl, by rw [← add_field _ _ 1 (by omega)]; exact hc 1 _ rfl⟩
def yZ.f (l0 : List Int) (a1 : Int) : Option (Int) := if (wrap64 (a1 - (l0.length : Int))) < 0 then (some (-1)) else (some (wrap64 (a1 - (l0.length : Int))))
def yX.f (a0_0 : Int) (a0_1 : Int) (l0_2 : List Int) (a1 : Int) : Option (Int) := (yZ.f l0_2 a1).bind fun t102 => (if t102 < 0 then (some (-1)) else (some t102))
def yH.l0 : Nat → List Int → List Int → Int → Option (List Int)
 | 0, _, _, _ => none
 | k + 1, x0, x3, x4 => if x4 < (x0.length : Int) then (if 0 ≤ x4 then (if x4 < (x3.length : Int) then (yH.l0 k x0 (x3.set (x4 : Int).toNat (rd x0 x4)) (wrap64 (x4 + 1))) else (none)) else (none)) else (some x3)
def yH.f (k : Nat) (l0 : List Int) : Option (List Int) := if 0 ≤ (l0.length : Int) then (if ((l0.length : Int) : Int).toNat ≤ 35184372088832 then (yH.l0 k l0 (List.replicate ((l0.length : Int) : Int).toNat 0) 0) else (none)) else (none)
theorem yH.mono_l : ∀ k, (∀ y0 y1 y2, LeO (yH.l0 k y0 y1 y2) (yH.l0 (k + 1) y0 y1 y2))
 | 0 => fun _ _ _ r h => by simp [yH.l0] at h
 | k + 1 => by
  have ih0 := yH.mono_l k
  ·
   intro y0 y1 y2
   unfold yH.l0
   repeat' first
   | (with_reducible exact ih0 _ _ _)
   | (with_reducible exact LeO.refl _)
   | (with_reducible exact LeO.none _)
   | (with_reducible refine LeO.ite ?_ ?_)
   | (with_reducible refine LeO.bind ?_ (fun _ => ?_))
   | refine LeO.ite ?_ ?_
   | refine LeO.bind ?_ (fun _ => ?_)
theorem yH.mono : ∀ a0 k, LeO (yH.f k a0) (yH.f (k + 1) a0) := by
 intro a0 k
 have ih0 := yH.mono_l k
 unfold yH.f
 repeat' first
   | (with_reducible exact ih0 _ _ _)
   | (with_reducible exact LeO.refl _)
   | (with_reducible exact LeO.none _)
   | (with_reducible refine LeO.ite ?_ ?_)
   | (with_reducible refine LeO.bind ?_ (fun _ => ?_))
   | refine LeO.ite ?_ ?_
   | refine LeO.bind ?_ (fun _ => ?_)
def yK.f (k : Nat) (a0_0 : Int) (a0_1 : Int) (l0_2 : List Int) : Option (Int × Int × List Int) := (yH.f k l0_2).bind fun t133 => (some (a0_0, a0_1, t133))
theorem yK.mono : ∀ a0 a1 a2 k, LeO (yK.f k a0 a1 a2) (yK.f (k + 1) a0 a1 a2) := by
 intro a0 a1 a2 k
 unfold yK.f
 repeat' first
   | (with_reducible exact yH.mono _ _)
   | (with_reducible exact LeO.refl _)
   | (with_reducible exact LeO.none _)
   | (with_reducible refine LeO.ite ?_ ?_)
   | (with_reducible refine LeO.bind ?_ (fun _ => ?_))
   | refine LeO.ite ?_ ?_
   | refine LeO.bind ?_ (fun _ => ?_)
def yI.l0 : Nat → List Int → List Int → Int → Option (Bool)
 | 0, _, _, _ => none
 | k + 1, x0, x1, x5 => if x5 < (x0.length : Int) then (if 0 ≤ x5 then (if x5 < (x1.length : Int) then (if (rd x0 x5) = (rd x1 x5) then (yI.l0 k x0 x1 (wrap64 (x5 + 1))) else (some false)) else (none)) else (none)) else (some true)
def yI.f (k : Nat) (l0 : List Int) (l1 : List Int) : Option (Bool) := if (l0.length : Int) = (l1.length : Int) then (yI.l0 k l0 l1 0) else (some false)
theorem yI.mono_l : ∀ k, (∀ y0 y1 y2, LeO (yI.l0 k y0 y1 y2) (yI.l0 (k + 1) y0 y1 y2))
 | 0 => fun _ _ _ r h => by simp [yI.l0] at h
 | k + 1 => by
  have ih0 := yI.mono_l k
  ·
   intro y0 y1 y2
   unfold yI.l0
   repeat' first
   | (with_reducible exact ih0 _ _ _)
   | (with_reducible exact LeO.refl _)
   | (with_reducible exact LeO.none _)
   | (with_reducible refine LeO.ite ?_ ?_)
   | (with_reducible refine LeO.bind ?_ (fun _ => ?_))
   | refine LeO.ite ?_ ?_
   | refine LeO.bind ?_ (fun _ => ?_)
theorem yI.mono : ∀ a0 a1 k, LeO (yI.f k a0 a1) (yI.f (k + 1) a0 a1) := by
 intro a0 a1 k
 have ih0 := yI.mono_l k
 unfold yI.f
 repeat' first
   | (with_reducible exact ih0 _ _ _)
   | (with_reducible exact LeO.refl _)
   | (with_reducible exact LeO.none _)
   | (with_reducible refine LeO.ite ?_ ?_)
   | (with_reducible refine LeO.bind ?_ (fun _ => ?_))
   | refine LeO.ite ?_ ?_
   | refine LeO.bind ?_ (fun _ => ?_)
def yL.f (k : Nat) (a0_0 : Int) (a0_1 : Int) (l0_2 : List Int) (a1_0 : Int) (a1_1 : Int) (l1_2 : List Int) : Option (Bool) := if a0_0 = a1_0 then (if a0_1 = a1_1 then ((yI.f k l0_2 l1_2).bind fun t164 => (if t164 = true then (some true) else (some false))) else (some false)) else (some false)
theorem yL.mono : ∀ a0 a1 a2 a3 a4 a5 k, LeO (yL.f k a0 a1 a2 a3 a4 a5) (yL.f (k + 1) a0 a1 a2 a3 a4 a5) := by
 intro a0 a1 a2 a3 a4 a5 k
 unfold yL.f
 repeat' first
   | (with_reducible exact yI.mono _ _ _)
   | (with_reducible exact LeO.refl _)
   | (with_reducible exact LeO.none _)
   | (with_reducible refine LeO.ite ?_ ?_)
   | (with_reducible refine LeO.bind ?_ (fun _ => ?_))
   | refine LeO.ite ?_ ?_
   | refine LeO.bind ?_ (fun _ => ?_)
def yP.f (a0 : Int) (a1 : Int) (a2 : Int) : Option (Bool) := if a0 ≥ a1 then (some (decide (a0 ≤ a2))) else (some false)
def yD.l0 : Nat → List Int → Int → Int → Int → Int → Option (Bool)
 | 0, _, _, _, _, _ => none
 | k + 1, x0, x1, x2, x3, x9 => if x9 < (x0.length : Int) then (if 0 ≤ x9 then ((yP.f (rd x0 x9) x2 x3).bind fun t104 => (if t104 = true then (yD.l0 k x0 x1 x2 x3 (wrap64 (x9 + 1))) else (some false))) else (none)) else (some (decide ((x0.length : Int) ≤ x1)))
def yD.f (k : Nat) (l0 : List Int) (a1 : Int) (a2 : Int) (a3 : Int) : Option (Bool) := yD.l0 k l0 a1 a2 a3 0
theorem yD.mono_l : ∀ k, (∀ y0 y1 y2 y3 y4, LeO (yD.l0 k y0 y1 y2 y3 y4) (yD.l0 (k + 1) y0 y1 y2 y3 y4))
 | 0 => fun _ _ _ _ _ r h => by simp [yD.l0] at h
 | k + 1 => by
  have ih0 := yD.mono_l k
  ·
   intro y0 y1 y2 y3 y4
   unfold yD.l0
   repeat' first
   | (with_reducible exact ih0 _ _ _ _ _)
   | (with_reducible exact LeO.refl _)
   | (with_reducible exact LeO.none _)
   | (with_reducible refine LeO.ite ?_ ?_)
   | (with_reducible refine LeO.bind ?_ (fun _ => ?_))
   | refine LeO.ite ?_ ?_
   | refine LeO.bind ?_ (fun _ => ?_)
theorem yD.mono : ∀ a0 a1 a2 a3 k, LeO (yD.f k a0 a1 a2 a3) (yD.f (k + 1) a0 a1 a2 a3) := by
 intro a0 a1 a2 a3 k
 have ih0 := yD.mono_l k
 unfold yD.f
 repeat' first
   | (with_reducible exact ih0 _ _ _ _ _)
   | (with_reducible exact LeO.refl _)
   | (with_reducible exact LeO.none _)
   | (with_reducible refine LeO.ite ?_ ?_)
   | (with_reducible refine LeO.bind ?_ (fun _ => ?_))
   | refine LeO.ite ?_ ?_
   | refine LeO.bind ?_ (fun _ => ?_)
def yM.f (k : Nat) (a0_0 : Int) (a0_1 : Int) (l0_2 : List Int) : Option (Bool) := (yP.f a0_0 1 6).bind fun t106 => (if t106 = true then ((yP.f a0_1 1 24).bind fun t107 => (if t107 = true then (if (l0_2.length : Int) = (wrap64 (a0_0 * a0_1)) then ((yD.f k l0_2 144 0 9).bind fun t108 => (some t108)) else (some false)) else (some false))) else (some false))
theorem yM.mono : ∀ a0 a1 a2 k, LeO (yM.f k a0 a1 a2) (yM.f (k + 1) a0 a1 a2) := by
 intro a0 a1 a2 k
 unfold yM.f
 repeat' first
   | (with_reducible exact yD.mono _ _ _ _ _)
   | (with_reducible exact LeO.refl _)
   | (with_reducible exact LeO.none _)
   | (with_reducible refine LeO.ite ?_ ?_)
   | (with_reducible refine LeO.bind ?_ (fun _ => ?_))
   | refine LeO.ite ?_ ?_
   | refine LeO.bind ?_ (fun _ => ?_)
def yY.f (a0_0 : Int) (a0_1 : Int) (l0_2 : List Int) (a1_0 : Bool) (a1_1 : Bool) (a1_2 : Int) (a2 : Int) (a3 : Int) : Option (Int × Int) := if a1_0 = true then (if a1_1 = true then (some (wrap64 (a1_2 + (wrap64 (-a2))), wrap64 ((wrap64 (a0_0 - 1)) - a3))) else (some (wrap64 (a1_2 + (wrap64 (-a2))), a3))) else (if a1_1 = true then (some (wrap64 (a1_2 + a2), wrap64 ((wrap64 (a0_0 - 1)) - a3))) else (some (wrap64 (a1_2 + a2), a3)))
def xA.f (a0 : Int) (a1 : Int) : Option (Int) := if a1 = 0 then (none) else (if (Int.tmod a0 a1) < 0 then (some (wrap64 ((Int.tmod a0 a1) + a1))) else (some (Int.tmod a0 a1)))
def yU.f (a0_0 : Int) (a0_1 : Int) (l0_2 : List Int) (a1 : Int) (a2 : Int) : Option (Int) := (xA.f a1 a0_1).bind fun t112 => (if 0 ≤ (wrap64 ((wrap64 (a2 * a0_1)) + t112)) then (if (wrap64 ((wrap64 (a2 * a0_1)) + t112)) < (l0_2.length : Int) then (some (rd l0_2 (wrap64 ((wrap64 (a2 * a0_1)) + t112)))) else (none)) else (none))
mutual
def yB.l0 : Nat → Int → Int → Int → List Int → Bool → Bool → Int → Option (Bool)
 | 0, _, _, _, _, _, _, _ => none
 | k + 1, x5, x115000, x115001, x115002, x116000, x116001, x116002 => if x5 < x115000 then (yB.l1 k x5 0 x115000 x115001 x115002 x116000 x116001 x116002) else (some true)
def yB.l1 : Nat → Int → Int → Int → Int → List Int → Bool → Bool → Int → Option (Bool)
 | 0, _, _, _, _, _, _, _, _ => none
 | k + 1, x5, x6, x115000, x115001, x115002, x116000, x116001, x116002 => if x6 < x115001 then ((yY.f x115000 x115001 x115002 x116000 x116001 x116002 x6 x5).bind fun bt116 => ((yU.f x115000 x115001 x115002 bt116.1 bt116.2).bind fun t118 => ((yU.f x115000 x115001 x115002 x6 x5).bind fun t119 => (if t118 = t119 then (yB.l1 k x5 (wrap64 (x6 + 1)) x115000 x115001 x115002 x116000 x116001 x116002) else (some false))))) else (yB.l0 k (wrap64 (x5 + 1)) x115000 x115001 x115002 x116000 x116001 x116002)
end
def yB.f (k : Nat) (a0_0 : Int) (a0_1 : Int) (l0_2 : List Int) (a1_0 : Bool) (a1_1 : Bool) (a1_2 : Int) : Option (Bool) := yB.l0 k 0 a0_0 a0_1 l0_2 a1_0 a1_1 a1_2
theorem yB.mono_l : ∀ k, (∀ y0 y1 y2 y3 y4 y5 y6, LeO (yB.l0 k y0 y1 y2 y3 y4 y5 y6) (yB.l0 (k + 1) y0 y1 y2 y3 y4 y5 y6)) ∧ (∀ y0 y1 y2 y3 y4 y5 y6 y7, LeO (yB.l1 k y0 y1 y2 y3 y4 y5 y6 y7) (yB.l1 (k + 1) y0 y1 y2 y3 y4 y5 y6 y7))
 | 0 => ⟨fun _ _ _ _ _ _ _ r h => by simp [yB.l0] at h, fun _ _ _ _ _ _ _ _ r h => by simp [yB.l1] at h⟩
 | k + 1 => by
  obtain ⟨ih0, ih1⟩ := yB.mono_l k
  refine ⟨?_, ?_⟩
  ·
   intro y0 y1 y2 y3 y4 y5 y6
   unfold yB.l0
   repeat' first
   | (with_reducible exact ih0 _ _ _ _ _ _ _)
   | (with_reducible exact ih1 _ _ _ _ _ _ _ _)
   | (with_reducible exact LeO.refl _)
   | (with_reducible exact LeO.none _)
   | (with_reducible refine LeO.ite ?_ ?_)
   | (with_reducible refine LeO.bind ?_ (fun _ => ?_))
   | refine LeO.ite ?_ ?_
   | refine LeO.bind ?_ (fun _ => ?_)
  ·
   intro y0 y1 y2 y3 y4 y5 y6 y7
   unfold yB.l1
   repeat' first
   | (with_reducible exact ih0 _ _ _ _ _ _ _)
   | (with_reducible exact ih1 _ _ _ _ _ _ _ _)
   | (with_reducible exact LeO.refl _)
   | (with_reducible exact LeO.none _)
   | (with_reducible refine LeO.ite ?_ ?_)
   | (with_reducible refine LeO.bind ?_ (fun _ => ?_))
   | refine LeO.ite ?_ ?_
   | refine LeO.bind ?_ (fun _ => ?_)
theorem yB.mono : ∀ a0 a1 a2 a3 a4 a5 k, LeO (yB.f k a0 a1 a2 a3 a4 a5) (yB.f (k + 1) a0 a1 a2 a3 a4 a5) := by
 intro a0 a1 a2 a3 a4 a5 k
 obtain ⟨ih0, ih1⟩ := yB.mono_l k
 unfold yB.f
 repeat' first
   | (with_reducible exact ih0 _ _ _ _ _ _ _)
   | (with_reducible exact ih1 _ _ _ _ _ _ _ _)
   | (with_reducible exact LeO.refl _)
   | (with_reducible exact LeO.none _)
   | (with_reducible refine LeO.ite ?_ ?_)
   | (with_reducible refine LeO.bind ?_ (fun _ => ?_))
   | refine LeO.ite ?_ ?_
   | refine LeO.bind ?_ (fun _ => ?_)
def yE.l0 : Nat → Int → Int → Int → List Int → Option (Int)
 | 0, _, _, _, _ => none
 | k + 1, x3, x121000, x121001, x121002 => (yB.f k x121000 x121001 x121002 false false x3).bind fun t121 => (if t121 = true then (some x3) else (yE.l0 k (wrap64 (x3 + 1)) x121000 x121001 x121002))
def yE.f (k : Nat) (a0_0 : Int) (a0_1 : Int) (l0_2 : List Int) : Option (Int) := yE.l0 k 1 a0_0 a0_1 l0_2
theorem yE.mono_l : ∀ k, (∀ y0 y1 y2 y3, LeO (yE.l0 k y0 y1 y2 y3) (yE.l0 (k + 1) y0 y1 y2 y3))
 | 0 => fun _ _ _ _ r h => by simp [yE.l0] at h
 | k + 1 => by
  have ih0 := yE.mono_l k
  ·
   intro y0 y1 y2 y3
   unfold yE.l0
   repeat' first
   | (with_reducible exact ih0 _ _ _ _)
   | (with_reducible exact yB.mono _ _ _ _ _ _ _)
   | (with_reducible exact LeO.refl _)
   | (with_reducible exact LeO.none _)
   | (with_reducible refine LeO.ite ?_ ?_)
   | (with_reducible refine LeO.bind ?_ (fun _ => ?_))
   | refine LeO.ite ?_ ?_
   | refine LeO.bind ?_ (fun _ => ?_)
theorem yE.mono : ∀ a0 a1 a2 k, LeO (yE.f k a0 a1 a2) (yE.f (k + 1) a0 a1 a2) := by
 intro a0 a1 a2 k
 have ih0 := yE.mono_l k
 unfold yE.f
 repeat' first
   | (with_reducible exact ih0 _ _ _ _)
   | (with_reducible exact yB.mono _ _ _ _ _ _ _)
   | (with_reducible exact LeO.refl _)
   | (with_reducible exact LeO.none _)
   | (with_reducible refine LeO.ite ?_ ?_)
   | (with_reducible refine LeO.bind ?_ (fun _ => ?_))
   | refine LeO.ite ?_ ?_
   | refine LeO.bind ?_ (fun _ => ?_)
def yA.l0 : Nat → Int → List (S36) → Int → Int → Int → List Int → Option ((List (S36)))
 | 0, _, _, _, _, _, _ => none
 | k + 1, x3, x4, x5, x365000, x365001, x365002 => if x5 < (wrap64 (4 * x3)) then (if x3 = 0 then (none) else ((yB.f k x365000 x365001 x365002 (decide ((wrap64 (Int.tdiv x5 x3)) ≥ 2)) ((Int.tmod (wrap64 (Int.tdiv x5 x3)) 2) == 1) (Int.tmod x5 x3)).bind fun t370 => (if t370 = true then (if x4.length < 8796093022208 then (yA.l0 k x3 (x4 ++ [(⟨decide ((wrap64 (Int.tdiv x5 x3)) ≥ 2), ((Int.tmod (wrap64 (Int.tdiv x5 x3)) 2) == 1), Int.tmod x5 x3⟩ : S36)]) (wrap64 (x5 + 1)) x365000 x365001 x365002) else (none)) else (yA.l0 k x3 x4 (wrap64 (x5 + 1)) x365000 x365001 x365002)))) else (some x4)
def yA.f (k : Nat) (a0_0 : Int) (a0_1 : Int) (l0_2 : List Int) : Option ((List (S36))) := (yE.f k a0_0 a0_1 l0_2).bind fun t365 => (yA.l0 k t365 (([] : List (S36))) 0 a0_0 a0_1 l0_2)
theorem yA.mono_l : ∀ k, (∀ y0 y1 y2 y3 y4 y5, LeO (yA.l0 k y0 y1 y2 y3 y4 y5) (yA.l0 (k + 1) y0 y1 y2 y3 y4 y5))
 | 0 => fun _ _ _ _ _ _ r h => by simp [yA.l0] at h
 | k + 1 => by
  have ih0 := yA.mono_l k
  ·
   intro y0 y1 y2 y3 y4 y5
   unfold yA.l0
   repeat' first
   | (with_reducible exact ih0 _ _ _ _ _ _)
   | (with_reducible exact yB.mono _ _ _ _ _ _ _)
   | (with_reducible exact yE.mono _ _ _ _)
   | (with_reducible exact LeO.refl _)
   | (with_reducible exact LeO.none _)
   | (with_reducible refine LeO.ite ?_ ?_)
   | (with_reducible refine LeO.bind ?_ (fun _ => ?_))
   | refine LeO.ite ?_ ?_
   | refine LeO.bind ?_ (fun _ => ?_)
theorem yA.mono : ∀ a0 a1 a2 k, LeO (yA.f k a0 a1 a2) (yA.f (k + 1) a0 a1 a2) := by
 intro a0 a1 a2 k
 have ih0 := yA.mono_l k
 unfold yA.f
 repeat' first
   | (with_reducible exact ih0 _ _ _ _ _ _)
   | (with_reducible exact yB.mono _ _ _ _ _ _ _)
   | (with_reducible exact yE.mono _ _ _ _)
   | (with_reducible exact LeO.refl _)
   | (with_reducible exact LeO.none _)
   | (with_reducible refine LeO.ite ?_ ?_)
   | (with_reducible refine LeO.bind ?_ (fun _ => ?_))
   | refine LeO.ite ?_ ?_
   | refine LeO.bind ?_ (fun _ => ?_)
mutual
def zX.l0 : Nat → List (S36) → Bool → Bool → Bool → Bool → Int → Option (ByteArray × Int)
 | 0, _, _, _, _, _, _ => none
 | k + 1, x4, x5, x6, x7, x8, x9 => if x9 < (x4.length : Int) then (if 0 ≤ x9 then (if x5 = true then (if x6 = true then (if x7 = true then (if x8 = true then (zX.l0 k x4 true true true true (wrap64 (x9 + 1))) else (if (rd_T36 x4 x9).f0 = true then (zX.l0 k x4 true true true ((rd_T36 x4 x9).f1) (wrap64 (x9 + 1))) else (zX.l0 k x4 true true true false (wrap64 (x9 + 1))))) else (if (rd_T36 x4 x9).f0 = true then (if x8 = true then (zX.l0 k x4 true true (!((rd_T36 x4 x9).f1)) true (wrap64 (x9 + 1))) else (zX.l0 k x4 true true (!((rd_T36 x4 x9).f1)) ((rd_T36 x4 x9).f1) (wrap64 (x9 + 1)))) else (if x8 = true then (zX.l0 k x4 true true false true (wrap64 (x9 + 1))) else (zX.l0 k x4 true true false false (wrap64 (x9 + 1)))))) else (if ((rd_T36 x4 x9).f0 = true) then (if x7 = true then (if x8 = true then (zX.l0 k x4 true false true true (wrap64 (x9 + 1))) else (if (rd_T36 x4 x9).f0 = true then (zX.l0 k x4 true false true ((rd_T36 x4 x9).f1) (wrap64 (x9 + 1))) else (zX.l0 k x4 true false true false (wrap64 (x9 + 1))))) else (if (rd_T36 x4 x9).f0 = true then (if x8 = true then (zX.l0 k x4 true false (!((rd_T36 x4 x9).f1)) true (wrap64 (x9 + 1))) else (zX.l0 k x4 true false (!((rd_T36 x4 x9).f1)) ((rd_T36 x4 x9).f1) (wrap64 (x9 + 1)))) else (if x8 = true then (zX.l0 k x4 true false false true (wrap64 (x9 + 1))) else (zX.l0 k x4 true false false false (wrap64 (x9 + 1)))))) else (if (rd_T36 x4 x9).f1 = true then (if x7 = true then (if x8 = true then (zX.l0 k x4 true (((rd_T36 x4 x9).f2) != 0) true true (wrap64 (x9 + 1))) else (if (rd_T36 x4 x9).f0 = true then (zX.l0 k x4 true (((rd_T36 x4 x9).f2) != 0) true ((rd_T36 x4 x9).f1) (wrap64 (x9 + 1))) else (zX.l0 k x4 true (((rd_T36 x4 x9).f2) != 0) true false (wrap64 (x9 + 1))))) else (if (rd_T36 x4 x9).f0 = true then (if x8 = true then (zX.l0 k x4 true (((rd_T36 x4 x9).f2) != 0) (!((rd_T36 x4 x9).f1)) true (wrap64 (x9 + 1))) else (zX.l0 k x4 true (((rd_T36 x4 x9).f2) != 0) (!((rd_T36 x4 x9).f1)) ((rd_T36 x4 x9).f1) (wrap64 (x9 + 1)))) else (if x8 = true then (zX.l0 k x4 true (((rd_T36 x4 x9).f2) != 0) false true (wrap64 (x9 + 1))) else (zX.l0 k x4 true (((rd_T36 x4 x9).f2) != 0) false false (wrap64 (x9 + 1)))))) else (if x7 = true then (if x8 = true then (zX.l0 k x4 true false true true (wrap64 (x9 + 1))) else (if (rd_T36 x4 x9).f0 = true then (zX.l0 k x4 true false true ((rd_T36 x4 x9).f1) (wrap64 (x9 + 1))) else (zX.l0 k x4 true false true false (wrap64 (x9 + 1))))) else (if (rd_T36 x4 x9).f0 = true then (if x8 = true then (zX.l0 k x4 true false (!((rd_T36 x4 x9).f1)) true (wrap64 (x9 + 1))) else (zX.l0 k x4 true false (!((rd_T36 x4 x9).f1)) ((rd_T36 x4 x9).f1) (wrap64 (x9 + 1)))) else (if x8 = true then (zX.l0 k x4 true false false true (wrap64 (x9 + 1))) else (zX.l0 k x4 true false false false (wrap64 (x9 + 1))))))))) else (if ((rd_T36 x4 x9).f0 = true) then (if x6 = true then (if x7 = true then (if x8 = true then (zX.l0 k x4 false true true true (wrap64 (x9 + 1))) else (if (rd_T36 x4 x9).f0 = true then (zX.l0 k x4 false true true ((rd_T36 x4 x9).f1) (wrap64 (x9 + 1))) else (zX.l0 k x4 false true true false (wrap64 (x9 + 1))))) else (if (rd_T36 x4 x9).f0 = true then (if x8 = true then (zX.l0 k x4 false true (!((rd_T36 x4 x9).f1)) true (wrap64 (x9 + 1))) else (zX.l0 k x4 false true (!((rd_T36 x4 x9).f1)) ((rd_T36 x4 x9).f1) (wrap64 (x9 + 1)))) else (if x8 = true then (zX.l0 k x4 false true false true (wrap64 (x9 + 1))) else (zX.l0 k x4 false true false false (wrap64 (x9 + 1)))))) else (if x7 = true then (if x8 = true then (zX.l0 k x4 false false true true (wrap64 (x9 + 1))) else (if (rd_T36 x4 x9).f0 = true then (zX.l0 k x4 false false true ((rd_T36 x4 x9).f1) (wrap64 (x9 + 1))) else (zX.l0 k x4 false false true false (wrap64 (x9 + 1))))) else (if (rd_T36 x4 x9).f0 = true then (if x8 = true then (zX.l0 k x4 false false (!((rd_T36 x4 x9).f1)) true (wrap64 (x9 + 1))) else (zX.l0 k x4 false false (!((rd_T36 x4 x9).f1)) ((rd_T36 x4 x9).f1) (wrap64 (x9 + 1)))) else (if x8 = true then (zX.l0 k x4 false false false true (wrap64 (x9 + 1))) else (zX.l0 k x4 false false false false (wrap64 (x9 + 1))))))) else (if (rd_T36 x4 x9).f1 = true then (if x6 = true then (if x7 = true then (if x8 = true then (zX.l0 k x4 (((rd_T36 x4 x9).f2) == 0) true true true (wrap64 (x9 + 1))) else (if (rd_T36 x4 x9).f0 = true then (zX.l0 k x4 (((rd_T36 x4 x9).f2) == 0) true true ((rd_T36 x4 x9).f1) (wrap64 (x9 + 1))) else (zX.l0 k x4 (((rd_T36 x4 x9).f2) == 0) true true false (wrap64 (x9 + 1))))) else (if (rd_T36 x4 x9).f0 = true then (if x8 = true then (zX.l0 k x4 (((rd_T36 x4 x9).f2) == 0) true (!((rd_T36 x4 x9).f1)) true (wrap64 (x9 + 1))) else (zX.l0 k x4 (((rd_T36 x4 x9).f2) == 0) true (!((rd_T36 x4 x9).f1)) ((rd_T36 x4 x9).f1) (wrap64 (x9 + 1)))) else (if x8 = true then (zX.l0 k x4 (((rd_T36 x4 x9).f2) == 0) true false true (wrap64 (x9 + 1))) else (zX.l0 k x4 (((rd_T36 x4 x9).f2) == 0) true false false (wrap64 (x9 + 1)))))) else (if x7 = true then (if x8 = true then (zX.l0 k x4 (((rd_T36 x4 x9).f2) == 0) (((rd_T36 x4 x9).f2) != 0) true true (wrap64 (x9 + 1))) else (if (rd_T36 x4 x9).f0 = true then (zX.l0 k x4 (((rd_T36 x4 x9).f2) == 0) (((rd_T36 x4 x9).f2) != 0) true ((rd_T36 x4 x9).f1) (wrap64 (x9 + 1))) else (zX.l0 k x4 (((rd_T36 x4 x9).f2) == 0) (((rd_T36 x4 x9).f2) != 0) true false (wrap64 (x9 + 1))))) else (if (rd_T36 x4 x9).f0 = true then (if x8 = true then (zX.l0 k x4 (((rd_T36 x4 x9).f2) == 0) (((rd_T36 x4 x9).f2) != 0) (!((rd_T36 x4 x9).f1)) true (wrap64 (x9 + 1))) else (zX.l0 k x4 (((rd_T36 x4 x9).f2) == 0) (((rd_T36 x4 x9).f2) != 0) (!((rd_T36 x4 x9).f1)) ((rd_T36 x4 x9).f1) (wrap64 (x9 + 1)))) else (if x8 = true then (zX.l0 k x4 (((rd_T36 x4 x9).f2) == 0) (((rd_T36 x4 x9).f2) != 0) false true (wrap64 (x9 + 1))) else (zX.l0 k x4 (((rd_T36 x4 x9).f2) == 0) (((rd_T36 x4 x9).f2) != 0) false false (wrap64 (x9 + 1))))))) else (if x6 = true then (if x7 = true then (if x8 = true then (zX.l0 k x4 false true true true (wrap64 (x9 + 1))) else (if (rd_T36 x4 x9).f0 = true then (zX.l0 k x4 false true true ((rd_T36 x4 x9).f1) (wrap64 (x9 + 1))) else (zX.l0 k x4 false true true false (wrap64 (x9 + 1))))) else (if (rd_T36 x4 x9).f0 = true then (if x8 = true then (zX.l0 k x4 false true (!((rd_T36 x4 x9).f1)) true (wrap64 (x9 + 1))) else (zX.l0 k x4 false true (!((rd_T36 x4 x9).f1)) ((rd_T36 x4 x9).f1) (wrap64 (x9 + 1)))) else (if x8 = true then (zX.l0 k x4 false true false true (wrap64 (x9 + 1))) else (zX.l0 k x4 false true false false (wrap64 (x9 + 1)))))) else (if x7 = true then (if x8 = true then (zX.l0 k x4 false false true true (wrap64 (x9 + 1))) else (if (rd_T36 x4 x9).f0 = true then (zX.l0 k x4 false false true ((rd_T36 x4 x9).f1) (wrap64 (x9 + 1))) else (zX.l0 k x4 false false true false (wrap64 (x9 + 1))))) else (if (rd_T36 x4 x9).f0 = true then (if x8 = true then (zX.l0 k x4 false false (!((rd_T36 x4 x9).f1)) true (wrap64 (x9 + 1))) else (zX.l0 k x4 false false (!((rd_T36 x4 x9).f1)) ((rd_T36 x4 x9).f1) (wrap64 (x9 + 1)))) else (if x8 = true then (zX.l0 k x4 false false false true (wrap64 (x9 + 1))) else (zX.l0 k x4 false false false false (wrap64 (x9 + 1)))))))))) else (none)) else (if x5 = true then (zX.j1 k x5 x6 x7 x8 x7) else (zX.j1 k x5 x6 x7 x8 false))
def zX.j1 : Nat → Bool → Bool → Bool → Bool → Bool → Option (ByteArray × Int)
 | 0, _, _, _, _, _ => none
 | k + 1, x5, x6, x7, x8, x75 => if x75 = true then (some ((⟨#[112, 50, 109, 109]⟩ : ByteArray), 0)) else (if x5 = true then (some ((⟨#[112, 49, 49, 109]⟩ : ByteArray), 0)) else (if x7 = true then (zX.j2 k x6 x7 x8 x8) else (zX.j2 k x6 x7 x8 false)))
def zX.j2 : Nat → Bool → Bool → Bool → Bool → Option (ByteArray × Int)
 | 0, _, _, _, _ => none
 | k + 1, x6, x7, x8, x82 => if x82 = true then (some ((⟨#[112, 50, 109, 103]⟩ : ByteArray), 0)) else (if x7 = true then (some ((⟨#[112, 49, 109, 49]⟩ : ByteArray), 0)) else (if x8 = true then (some ((⟨#[112, 50]⟩ : ByteArray), 0)) else (if x6 = true then (some ((⟨#[112, 49, 49, 103]⟩ : ByteArray), 0)) else (some ((⟨#[112, 49]⟩ : ByteArray), 0)))))
end
def zX.f (k : Nat) (a0_0 : Int) (a0_1 : Int) (l0_2 : List Int) : Option (ByteArray × Int) := (yM.f k a0_0 a0_1 l0_2).bind fun t375 => (if t375 = true then ((yA.f k a0_0 a0_1 l0_2).bind fun t376 => (zX.l0 k t376 false false false false 0)) else (some ((⟨#[]⟩ : ByteArray), 1)))
theorem zX.mono_l : ∀ k, (∀ y0 y1 y2 y3 y4 y5, LeO (zX.l0 k y0 y1 y2 y3 y4 y5) (zX.l0 (k + 1) y0 y1 y2 y3 y4 y5)) ∧ (∀ y0 y1 y2 y3 y4, LeO (zX.j1 k y0 y1 y2 y3 y4) (zX.j1 (k + 1) y0 y1 y2 y3 y4)) ∧ (∀ y0 y1 y2 y3, LeO (zX.j2 k y0 y1 y2 y3) (zX.j2 (k + 1) y0 y1 y2 y3))
 | 0 => ⟨fun _ _ _ _ _ _ r h => by simp [zX.l0] at h, fun _ _ _ _ _ r h => by simp [zX.j1] at h, fun _ _ _ _ r h => by simp [zX.j2] at h⟩
 | k + 1 => by
  obtain ⟨ih0, ih1, ih2⟩ := zX.mono_l k
  refine ⟨?_, ?_, ?_⟩
  ·
   intro y0 y1 y2 y3 y4 y5
   unfold zX.l0
   repeat' first
   | (with_reducible exact ih0 _ _ _ _ _ _)
   | (with_reducible exact ih1 _ _ _ _ _)
   | (with_reducible exact ih2 _ _ _ _)
   | (with_reducible exact yM.mono _ _ _ _)
   | (with_reducible exact yA.mono _ _ _ _)
   | (with_reducible exact LeO.refl _)
   | (with_reducible exact LeO.none _)
   | (with_reducible refine LeO.ite ?_ ?_)
   | (with_reducible refine LeO.bind ?_ (fun _ => ?_))
   | refine LeO.ite ?_ ?_
   | refine LeO.bind ?_ (fun _ => ?_)
  ·
   intro y0 y1 y2 y3 y4
   unfold zX.j1
   repeat' first
   | (with_reducible exact ih0 _ _ _ _ _ _)
   | (with_reducible exact ih1 _ _ _ _ _)
   | (with_reducible exact ih2 _ _ _ _)
   | (with_reducible exact yM.mono _ _ _ _)
   | (with_reducible exact yA.mono _ _ _ _)
   | (with_reducible exact LeO.refl _)
   | (with_reducible exact LeO.none _)
   | (with_reducible refine LeO.ite ?_ ?_)
   | (with_reducible refine LeO.bind ?_ (fun _ => ?_))
   | refine LeO.ite ?_ ?_
   | refine LeO.bind ?_ (fun _ => ?_)
  ·
   intro y0 y1 y2 y3
   unfold zX.j2
   repeat' first
   | (with_reducible exact ih0 _ _ _ _ _ _)
   | (with_reducible exact ih1 _ _ _ _ _)
   | (with_reducible exact ih2 _ _ _ _)
   | (with_reducible exact yM.mono _ _ _ _)
   | (with_reducible exact yA.mono _ _ _ _)
   | (with_reducible exact LeO.refl _)
   | (with_reducible exact LeO.none _)
   | (with_reducible refine LeO.ite ?_ ?_)
   | (with_reducible refine LeO.bind ?_ (fun _ => ?_))
   | refine LeO.ite ?_ ?_
   | refine LeO.bind ?_ (fun _ => ?_)
theorem zX.mono : ∀ a0 a1 a2 k, LeO (zX.f k a0 a1 a2) (zX.f (k + 1) a0 a1 a2) := by
 intro a0 a1 a2 k
 obtain ⟨ih0, ih1, ih2⟩ := zX.mono_l k
 unfold zX.f
 repeat' first
   | (with_reducible exact ih0 _ _ _ _ _ _)
   | (with_reducible exact ih1 _ _ _ _ _)
   | (with_reducible exact ih2 _ _ _ _)
   | (with_reducible exact yM.mono _ _ _ _)
   | (with_reducible exact yA.mono _ _ _ _)
   | (with_reducible exact LeO.refl _)
   | (with_reducible exact LeO.none _)
   | (with_reducible refine LeO.ite ?_ ?_)
   | (with_reducible refine LeO.bind ?_ (fun _ => ?_))
   | refine LeO.ite ?_ ?_
   | refine LeO.bind ?_ (fun _ => ?_)
def yS.f (a0 : Int) (a1 : Int) (a2 : Int) : Option (Bool) := if a0 ≥ a1 then (some (decide (a0 ≤ a2))) else (some false)
theorem enters_of {P : Program} {f : FuncId} {fn : Func} {c : Code} (hf : P.funcs[f]? = some fn) (hname : (fn.name == "runtime.NumGoroutine") = false) (hb : fn.body = some c) (args : Array Value) (w : World) : (callFunc f args).run P w = .ok (.enter f args) w := by
 have h1 : fn.name ≠ "runtime.NumGoroutine" := by simpa using hname
 simp [callFunc, hf, h1, hb, mark]
/-- where p first holds -/
def fidx {α : Type} (p : α → Bool) (xs : List α) : Int := match xs.findIdx? p with | some i => (i : Int) | none => -1
theorem fidx_hit {α : Type} (p : α → Bool) (xs : List α) (d : α) (k : Nat) (hk : k < xs.length) (h : ∀ j, j < k → p (xs.getD j d) = false) (hp : p (xs.getD k d) = true) : fidx p xs = (k : Int) := by
 have e : xs.findIdx? p = some k := by
  rw [List.findIdx?_eq_some_iff_getElem]
  refine ⟨hk, ?_, fun j hj => ?_⟩
  ·
   simpa [List.getD_eq_getElem?_getD, List.getElem?_eq_getElem hk] using hp
  ·
   have := h j hj
   simpa [List.getD_eq_getElem?_getD, List.getElem?_eq_getElem (show j < xs.length by omega)] using this
 unfold fidx
 rw [e]
theorem fidx_miss {α : Type} (p : α → Bool) (xs : List α) (d : α) (h : ∀ j, j < xs.length → p (xs.getD j d) = false) : fidx p xs = -1 := by
 have e : xs.findIdx? p = none := by
  rw [List.findIdx?_eq_none_iff]
  intro x hx
  obtain ⟨j, hj, rfl⟩ := List.mem_iff_getElem.1 hx
  have := h j hj
  simpa [List.getD_eq_getElem?_getD, List.getElem?_eq_getElem hj] using this
 unfold fidx
 rw [e]
theorem fidx_nonneg {α : Type} (p : α → Bool) (xs : List α) : decide (0 ≤ fidx p xs) = xs.any p := by
 unfold fidx
 cases e : xs.findIdx? p with
 | none =>
  rw [List.findIdx?_eq_none_iff] at e
  have : xs.any p = false := by rw [List.any_eq_false]; intro x hx; simp [e x hx]
  rw [this]
  rfl
 | some i =>
  rw [List.findIdx?_eq_some_iff_getElem] at e
  obtain ⟨h, hp, _⟩ := e
  have : xs.any p = true := List.any_eq_true.2 ⟨xs[i], List.getElem_mem h, hp⟩
  rw [this]
  simp
/-! What a function with rounds comes to, whatever the rounds: its limit. -/
def Mono {α : Type} (g : Nat → Option α) : Prop := ∀ k, LeO (g k) (g (k + 1))
def Lim {α : Type} (g : Nat → Option α) (v : Option α) : Prop := Mono g ∧ ∀ r, v = some r ↔ ∃ k, g k = some r
open Classical in
noncomputable def lim {α : Type} (g : Nat → Option α) : Option α := if h : ∃ k r, g k = some r then g h.choose else none
theorem Mono.le {α : Type} {g : Nat → Option α} (hm : Mono g) {j k : Nat} (h : j ≤ k) {r : α} (hr : g j = some r) : g k = some r := at_rounds hm h hr
theorem lim_Lim {α : Type} {g : Nat → Option α} (hm : Mono g) : Lim g (lim g) := by
 refine ⟨hm, fun r => ?_⟩
 unfold lim
 split
 ·
  rename_i h
  obtain ⟨q, hq⟩ := h.choose_spec
  rw [hq]
  constructor
  ·
   intro e; exact ⟨_, hq.trans e⟩
  ·
   rintro ⟨k, hk⟩
   have h1 := hm.le (Nat.le_max_left h.choose k) hq
   have h2 := hm.le (Nat.le_max_right h.choose k) hk
   rw [← h1, h2]
 ·
  rename_i h
  constructor
  ·
   intro e; cases e
  ·
   rintro ⟨k, hk⟩; exact absurd ⟨k, r, hk⟩ h
theorem Lim.uniq {α : Type} {g : Nat → Option α} {v w : Option α} (h : Lim g v) (h' : Lim g w) : v = w := by
 cases v with
 | some r => exact ((h'.2 r).2 ((h.2 r).1 rfl)).symm
 | none =>
  cases w with
  | none => rfl
  | some r => exact (h.2 r).2 ((h'.2 r).1 rfl)
theorem Lim.const {α : Type} (v : Option α) : Lim (fun _ => v) v := ⟨fun _ => LeO.refl _, fun r => ⟨fun h => ⟨0, h⟩, fun ⟨_, h⟩ => h⟩⟩
theorem Lim.ite {α : Type} {c : Prop} [Decidable c] {g f : Nat → Option α} {v w : Option α} (h : Lim g v) (h' : Lim f w) : Lim (fun k => if c then g k else f k) (if c then v else w) := by
 by_cases hc : c
 ·
  simp only [if_pos hc]; exact h
 ·
  simp only [if_neg hc]; exact h'
theorem Lim.bind {α β : Type} {g : Nat → Option α} {f : Nat → α → Option β} {v : Option α} {w : α → Option β} (h : Lim g v) (h' : ∀ x, Lim (fun k => f k x) (w x)) : Lim (fun k => (g k).bind (f k)) (v.bind w) := by
 refine ⟨fun k => LeO.bind (h.1 k) (fun x => (h' x).1 k), fun r => ?_⟩
 rw [Option.bind_eq_some_iff]
 constructor
 ·
  rintro ⟨x, hx, hr⟩
  obtain ⟨k, hk⟩ := (h.2 x).1 hx
  obtain ⟨j, hj⟩ := ((h' x).2 r).1 hr
  refine ⟨max k j, ?_⟩
  show (g (max k j)).bind (f (max k j)) = some r
  rw [h.1.le (Nat.le_max_left k j) hk]
  exact (h' x).1.le (Nat.le_max_right k j) hj
 ·
  rintro ⟨k, hk⟩
  obtain ⟨x, hx, hr⟩ := Option.bind_eq_some_iff.1 hk
  exact ⟨x, (h.2 x).2 ⟨k, hx⟩, ((h' x).2 r).2 ⟨k, hr⟩⟩
theorem lim_step {α : Type} {g f : Nat → Option α} {v : Option α} (hm : Mono g) (h : ∀ k, g (k + 1) = f k) (hf : Lim f v) : lim g = v := by
 refine (lim_Lim hm).uniq ⟨hm, fun r => ?_⟩
 rw [hf.2 r]
 constructor
 ·
  rintro ⟨k, hk⟩; exact ⟨k + 1, (h k).trans hk⟩
 ·
  rintro ⟨k, hk⟩; exact ⟨k, (h k).symm.trans (hm k r hk)⟩
theorem lim_now {α : Type} {g f : Nat → Option α} {v : Option α} (h : ∀ k, g k = f k) (hf : Lim f v) : lim g = v := by
 have e : g = f := funext h
 subst e
 exact (lim_Lim hf.1).uniq hf
theorem lim_some {α : Type} {g : Nat → Option α} (hm : Mono g) {r : α} (h : lim g = some r) : ∃ k, g k = some r := ((lim_Lim hm).2 r).1 h
def yT.f (l0 : List Int) (a1 : Int) (a2 : Int) : Option (Bool) := some (l0.all fun n => decide (a1 ≤ n) && decide (n ≤ a2))
def yW.f (a0_0 : Int) (a0_1 : Int) (l0_2 : List Int) : Option (Bool) := (yS.f a0_0 1 6).bind fun t137 => (if t137 = true then ((yS.f a0_1 1 24).bind fun t138 => (if t138 = true then (if (l0_2.length : Int) = (wrap64 (a0_0 * a0_1)) then ((yT.f l0_2 0 9).bind fun t139 => (some t139)) else (some false)) else (some false))) else (some false))
def yR.f (a0 : Int) (a1 : Int) : Option (Int) := if a1 = 0 then (none) else (some (Int.tmod (wrap64 ((Int.tmod a0 a1) + a1)) a1))
def yV.f (a0_0 : Int) (a0_1 : Int) (l0_2 : List Int) (a1_0 : Bool) (a1_1 : Bool) (a1_2 : Int) (a2 : Int) (a3 : Int) : Option (Int × Int) := if a1_0 = true then (if a1_1 = true then ((yR.f (wrap64 ((wrap64 (-a2)) + a1_2)) a0_1).bind fun t142 => (some (t142, wrap64 ((wrap64 (a0_0 - 1)) - a3)))) else ((yR.f (wrap64 ((wrap64 (-a2)) + a1_2)) a0_1).bind fun t143 => (some (t143, a3)))) else (if a1_1 = true then ((yR.f (wrap64 (a2 + a1_2)) a0_1).bind fun t144 => (some (t144, wrap64 ((wrap64 (a0_0 - 1)) - a3)))) else ((yR.f (wrap64 (a2 + a1_2)) a0_1).bind fun t145 => (some (t145, a3))))
def yQ.f (a0_0 : Int) (a0_1 : Int) (l0_2 : List Int) (a1 : Int) (a2 : Int) : Option (Int) := (yR.f a1 a0_1).bind fun t147 => (if 0 ≤ (wrap64 ((wrap64 (a2 * a0_1)) + t147)) then (if (wrap64 ((wrap64 (a2 * a0_1)) + t147)) < (l0_2.length : Int) then (some (rd l0_2 (wrap64 ((wrap64 (a2 * a0_1)) + t147)))) else (none)) else (none))
mutual
def zZ.l0 : Nat → Int → Int → Int → Int → List Int → Bool → Bool → Int → Option (Bool)
 | 0, _, _, _, _, _, _, _, _ => none
 | k + 1, x10, x11, x150000, x150001, x150002, x151000, x151001, x151002 => if x11 < x10 then (zZ.l1 k x11 x10 x11 x150001 0 x150000 x150001 x150002 x151000 x151001 x151002) else (some true)
def zZ.l1 : Nat → Int → Int → Int → Int → Int → Int → Int → List Int → Bool → Bool → Int → Option (Bool)
 | 0, _, _, _, _, _, _, _, _, _, _, _ => none
 | k + 1, x5, x10, x11, x15, x16, x150000, x150001, x150002, x151000, x151001, x151002 => if x16 < x15 then ((yV.f x150000 x150001 x150002 x151000 x151001 x151002 x16 x5).bind fun bt151 => ((yQ.f x150000 x150001 x150002 bt151.1 bt151.2).bind fun t153 => ((yQ.f x150000 x150001 x150002 x16 x5).bind fun t154 => (if t153 = t154 then (zZ.l1 k x5 x10 x11 x15 (wrap64 (x16 + 1)) x150000 x150001 x150002 x151000 x151001 x151002) else (some false))))) else (zZ.l0 k x10 (wrap64 (x11 + 1)) x150000 x150001 x150002 x151000 x151001 x151002)
end
def zZ.f (k : Nat) (a0_0 : Int) (a0_1 : Int) (l0_2 : List Int) (a1_0 : Bool) (a1_1 : Bool) (a1_2 : Int) : Option (Bool) := zZ.l0 k a0_0 0 a0_0 a0_1 l0_2 a1_0 a1_1 a1_2
theorem zZ.mono_l : ∀ k, (∀ y0 y1 y2 y3 y4 y5 y6 y7, LeO (zZ.l0 k y0 y1 y2 y3 y4 y5 y6 y7) (zZ.l0 (k + 1) y0 y1 y2 y3 y4 y5 y6 y7)) ∧ (∀ y0 y1 y2 y3 y4 y5 y6 y7 y8 y9 y10, LeO (zZ.l1 k y0 y1 y2 y3 y4 y5 y6 y7 y8 y9 y10) (zZ.l1 (k + 1) y0 y1 y2 y3 y4 y5 y6 y7 y8 y9 y10))
 | 0 => ⟨fun _ _ _ _ _ _ _ _ r h => by simp [zZ.l0] at h, fun _ _ _ _ _ _ _ _ _ _ _ r h => by simp [zZ.l1] at h⟩
 | k + 1 => by
  obtain ⟨ih0, ih1⟩ := zZ.mono_l k
  refine ⟨?_, ?_⟩
  ·
   intro y0 y1 y2 y3 y4 y5 y6 y7
   unfold zZ.l0
   repeat' first
   | (with_reducible exact ih0 _ _ _ _ _ _ _ _)
   | (with_reducible exact ih1 _ _ _ _ _ _ _ _ _ _ _)
   | (with_reducible exact LeO.refl _)
   | (with_reducible exact LeO.none _)
   | (with_reducible refine LeO.ite ?_ ?_)
   | (with_reducible refine LeO.bind ?_ (fun _ => ?_))
   | refine LeO.ite ?_ ?_
   | refine LeO.bind ?_ (fun _ => ?_)
  ·
   intro y0 y1 y2 y3 y4 y5 y6 y7 y8 y9 y10
   unfold zZ.l1
   repeat' first
   | (with_reducible exact ih0 _ _ _ _ _ _ _ _)
   | (with_reducible exact ih1 _ _ _ _ _ _ _ _ _ _ _)
   | (with_reducible exact LeO.refl _)
   | (with_reducible exact LeO.none _)
   | (with_reducible refine LeO.ite ?_ ?_)
   | (with_reducible refine LeO.bind ?_ (fun _ => ?_))
   | refine LeO.ite ?_ ?_
   | refine LeO.bind ?_ (fun _ => ?_)
theorem zZ.mono : ∀ a0 a1 a2 a3 a4 a5 k, LeO (zZ.f k a0 a1 a2 a3 a4 a5) (zZ.f (k + 1) a0 a1 a2 a3 a4 a5) := by
 intro a0 a1 a2 a3 a4 a5 k
 obtain ⟨ih0, ih1⟩ := zZ.mono_l k
 unfold zZ.f
 repeat' first
   | (with_reducible exact ih0 _ _ _ _ _ _ _ _)
   | (with_reducible exact ih1 _ _ _ _ _ _ _ _ _ _ _)
   | (with_reducible exact LeO.refl _)
   | (with_reducible exact LeO.none _)
   | (with_reducible refine LeO.ite ?_ ?_)
   | (with_reducible refine LeO.bind ?_ (fun _ => ?_))
   | refine LeO.ite ?_ ?_
   | refine LeO.bind ?_ (fun _ => ?_)
def yC.l0 : Nat → Int → Int → Int → List Int → Option (Int)
 | 0, _, _, _, _ => none
 | k + 1, x3, x156000, x156001, x156002 => (zZ.f k x156000 x156001 x156002 false false x3).bind fun t156 => (if t156 = true then (some x3) else (yC.l0 k (wrap64 (x3 + 1)) x156000 x156001 x156002))
def yC.f (k : Nat) (a0_0 : Int) (a0_1 : Int) (l0_2 : List Int) : Option (Int) := yC.l0 k 1 a0_0 a0_1 l0_2
theorem yC.mono_l : ∀ k, (∀ y0 y1 y2 y3, LeO (yC.l0 k y0 y1 y2 y3) (yC.l0 (k + 1) y0 y1 y2 y3))
 | 0 => fun _ _ _ _ r h => by simp [yC.l0] at h
 | k + 1 => by
  have ih0 := yC.mono_l k
  ·
   intro y0 y1 y2 y3
   unfold yC.l0
   repeat' first
   | (with_reducible exact ih0 _ _ _ _)
   | (with_reducible exact zZ.mono _ _ _ _ _ _ _)
   | (with_reducible exact LeO.refl _)
   | (with_reducible exact LeO.none _)
   | (with_reducible refine LeO.ite ?_ ?_)
   | (with_reducible refine LeO.bind ?_ (fun _ => ?_))
   | refine LeO.ite ?_ ?_
   | refine LeO.bind ?_ (fun _ => ?_)
theorem yC.mono : ∀ a0 a1 a2 k, LeO (yC.f k a0 a1 a2) (yC.f (k + 1) a0 a1 a2) := by
 intro a0 a1 a2 k
 have ih0 := yC.mono_l k
 unfold yC.f
 repeat' first
   | (with_reducible exact ih0 _ _ _ _)
   | (with_reducible exact zZ.mono _ _ _ _ _ _ _)
   | (with_reducible exact LeO.refl _)
   | (with_reducible exact LeO.none _)
   | (with_reducible refine LeO.ite ?_ ?_)
   | (with_reducible refine LeO.bind ?_ (fun _ => ?_))
   | refine LeO.ite ?_ ?_
   | refine LeO.bind ?_ (fun _ => ?_)
mutual
def zY.l0 : Nat → List (S36) → Int → Int → Int → List Int → Option ((List (S36)))
 | 0, _, _, _, _, _ => none
 | k + 1, x3, x8, x382000, x382001, x382002 => if x8 < 4 then ((yC.f k x382000 x382001 x382002).bind fun t385 => (zY.l1 k x3 x8 x8 t385 0 x382000 x382001 x382002)) else (some x3)
def zY.l1 : Nat → List (S36) → Int → Int → Int → Int → Int → Int → List Int → Option ((List (S36)))
 | 0, _, _, _, _, _, _, _, _ => none
 | k + 1, x3, x4, x8, x12, x13, x382000, x382001, x382002 => if x13 < x12 then ((zZ.f k x382000 x382001 x382002 (decide (x4 ≥ 2)) ((Int.tmod x4 2) == 1) x13).bind fun t387 => (if t387 = true then (if x3.length < 8796093022208 then (zY.l1 k (x3 ++ [(⟨decide (x4 ≥ 2), ((Int.tmod x4 2) == 1), x13⟩ : S36)]) x4 x8 x12 (wrap64 (x13 + 1)) x382000 x382001 x382002) else (none)) else (zY.l1 k x3 x4 x8 x12 (wrap64 (x13 + 1)) x382000 x382001 x382002))) else (zY.l0 k x3 (wrap64 (x8 + 1)) x382000 x382001 x382002)
end
def zY.f (k : Nat) (a0_0 : Int) (a0_1 : Int) (l0_2 : List Int) : Option ((List (S36))) := zY.l0 k (([] : List (S36))) 0 a0_0 a0_1 l0_2
theorem zY.mono_l : ∀ k, (∀ y0 y1 y2 y3 y4, LeO (zY.l0 k y0 y1 y2 y3 y4) (zY.l0 (k + 1) y0 y1 y2 y3 y4)) ∧ (∀ y0 y1 y2 y3 y4 y5 y6 y7, LeO (zY.l1 k y0 y1 y2 y3 y4 y5 y6 y7) (zY.l1 (k + 1) y0 y1 y2 y3 y4 y5 y6 y7))
 | 0 => ⟨fun _ _ _ _ _ r h => by simp [zY.l0] at h, fun _ _ _ _ _ _ _ _ r h => by simp [zY.l1] at h⟩
 | k + 1 => by
  obtain ⟨ih0, ih1⟩ := zY.mono_l k
  refine ⟨?_, ?_⟩
  ·
   intro y0 y1 y2 y3 y4
   unfold zY.l0
   repeat' first
   | (with_reducible exact ih0 _ _ _ _ _)
   | (with_reducible exact ih1 _ _ _ _ _ _ _ _)
   | (with_reducible exact zZ.mono _ _ _ _ _ _ _)
   | (with_reducible exact yC.mono _ _ _ _)
   | (with_reducible exact LeO.refl _)
   | (with_reducible exact LeO.none _)
   | (with_reducible refine LeO.ite ?_ ?_)
   | (with_reducible refine LeO.bind ?_ (fun _ => ?_))
   | refine LeO.ite ?_ ?_
   | refine LeO.bind ?_ (fun _ => ?_)
  ·
   intro y0 y1 y2 y3 y4 y5 y6 y7
   unfold zY.l1
   repeat' first
   | (with_reducible exact ih0 _ _ _ _ _)
   | (with_reducible exact ih1 _ _ _ _ _ _ _ _)
   | (with_reducible exact zZ.mono _ _ _ _ _ _ _)
   | (with_reducible exact yC.mono _ _ _ _)
   | (with_reducible exact LeO.refl _)
   | (with_reducible exact LeO.none _)
   | (with_reducible refine LeO.ite ?_ ?_)
   | (with_reducible refine LeO.bind ?_ (fun _ => ?_))
   | refine LeO.ite ?_ ?_
   | refine LeO.bind ?_ (fun _ => ?_)
theorem zY.mono : ∀ a0 a1 a2 k, LeO (zY.f k a0 a1 a2) (zY.f (k + 1) a0 a1 a2) := by
 intro a0 a1 a2 k
 obtain ⟨ih0, ih1⟩ := zY.mono_l k
 unfold zY.f
 repeat' first
   | (with_reducible exact ih0 _ _ _ _ _)
   | (with_reducible exact ih1 _ _ _ _ _ _ _ _)
   | (with_reducible exact zZ.mono _ _ _ _ _ _ _)
   | (with_reducible exact yC.mono _ _ _ _)
   | (with_reducible exact LeO.refl _)
   | (with_reducible exact LeO.none _)
   | (with_reducible refine LeO.ite ?_ ?_)
   | (with_reducible refine LeO.bind ?_ (fun _ => ?_))
   | refine LeO.ite ?_ ?_
   | refine LeO.bind ?_ (fun _ => ?_)
mutual
def zW.l0 : Nat → Bool → Bool → Bool → Bool → List (S36) → Int → Int → Option (ByteArray × Int)
 | 0, _, _, _, _, _, _, _ => none
 | k + 1, x4, x5, x6, x7, x14, x15, x16 => if x16 < x15 then (if 0 ≤ x16 then (if x16 < (x14.length : Int) then (if x4 = true then (if x5 = true then (if x6 = true then (if x7 = true then (zW.l0 k true true true true x14 x15 (wrap64 (x16 + 1))) else (if (rd_T36 x14 x16).f0 = true then (zW.l0 k true true true ((rd_T36 x14 x16).f1) x14 x15 (wrap64 (x16 + 1))) else (zW.l0 k true true true false x14 x15 (wrap64 (x16 + 1))))) else (if (rd_T36 x14 x16).f0 = true then (if x7 = true then (zW.l0 k true true (!((rd_T36 x14 x16).f1)) true x14 x15 (wrap64 (x16 + 1))) else (zW.l0 k true true (!((rd_T36 x14 x16).f1)) ((rd_T36 x14 x16).f1) x14 x15 (wrap64 (x16 + 1)))) else (if x7 = true then (zW.l0 k true true false true x14 x15 (wrap64 (x16 + 1))) else (zW.l0 k true true false false x14 x15 (wrap64 (x16 + 1)))))) else (if ((rd_T36 x14 x16).f0 = true) then (if x6 = true then (if x7 = true then (zW.l0 k true false true true x14 x15 (wrap64 (x16 + 1))) else (if (rd_T36 x14 x16).f0 = true then (zW.l0 k true false true ((rd_T36 x14 x16).f1) x14 x15 (wrap64 (x16 + 1))) else (zW.l0 k true false true false x14 x15 (wrap64 (x16 + 1))))) else (if (rd_T36 x14 x16).f0 = true then (if x7 = true then (zW.l0 k true false (!((rd_T36 x14 x16).f1)) true x14 x15 (wrap64 (x16 + 1))) else (zW.l0 k true false (!((rd_T36 x14 x16).f1)) ((rd_T36 x14 x16).f1) x14 x15 (wrap64 (x16 + 1)))) else (if x7 = true then (zW.l0 k true false false true x14 x15 (wrap64 (x16 + 1))) else (zW.l0 k true false false false x14 x15 (wrap64 (x16 + 1)))))) else (if (rd_T36 x14 x16).f1 = true then (if x6 = true then (if x7 = true then (zW.l0 k true (((rd_T36 x14 x16).f2) != 0) true true x14 x15 (wrap64 (x16 + 1))) else (if (rd_T36 x14 x16).f0 = true then (zW.l0 k true (((rd_T36 x14 x16).f2) != 0) true ((rd_T36 x14 x16).f1) x14 x15 (wrap64 (x16 + 1))) else (zW.l0 k true (((rd_T36 x14 x16).f2) != 0) true false x14 x15 (wrap64 (x16 + 1))))) else (if (rd_T36 x14 x16).f0 = true then (if x7 = true then (zW.l0 k true (((rd_T36 x14 x16).f2) != 0) (!((rd_T36 x14 x16).f1)) true x14 x15 (wrap64 (x16 + 1))) else (zW.l0 k true (((rd_T36 x14 x16).f2) != 0) (!((rd_T36 x14 x16).f1)) ((rd_T36 x14 x16).f1) x14 x15 (wrap64 (x16 + 1)))) else (if x7 = true then (zW.l0 k true (((rd_T36 x14 x16).f2) != 0) false true x14 x15 (wrap64 (x16 + 1))) else (zW.l0 k true (((rd_T36 x14 x16).f2) != 0) false false x14 x15 (wrap64 (x16 + 1)))))) else (if x6 = true then (if x7 = true then (zW.l0 k true false true true x14 x15 (wrap64 (x16 + 1))) else (if (rd_T36 x14 x16).f0 = true then (zW.l0 k true false true ((rd_T36 x14 x16).f1) x14 x15 (wrap64 (x16 + 1))) else (zW.l0 k true false true false x14 x15 (wrap64 (x16 + 1))))) else (if (rd_T36 x14 x16).f0 = true then (if x7 = true then (zW.l0 k true false (!((rd_T36 x14 x16).f1)) true x14 x15 (wrap64 (x16 + 1))) else (zW.l0 k true false (!((rd_T36 x14 x16).f1)) ((rd_T36 x14 x16).f1) x14 x15 (wrap64 (x16 + 1)))) else (if x7 = true then (zW.l0 k true false false true x14 x15 (wrap64 (x16 + 1))) else (zW.l0 k true false false false x14 x15 (wrap64 (x16 + 1))))))))) else (if ((rd_T36 x14 x16).f0 = true) then (if x5 = true then (if x6 = true then (if x7 = true then (zW.l0 k false true true true x14 x15 (wrap64 (x16 + 1))) else (if (rd_T36 x14 x16).f0 = true then (zW.l0 k false true true ((rd_T36 x14 x16).f1) x14 x15 (wrap64 (x16 + 1))) else (zW.l0 k false true true false x14 x15 (wrap64 (x16 + 1))))) else (if (rd_T36 x14 x16).f0 = true then (if x7 = true then (zW.l0 k false true (!((rd_T36 x14 x16).f1)) true x14 x15 (wrap64 (x16 + 1))) else (zW.l0 k false true (!((rd_T36 x14 x16).f1)) ((rd_T36 x14 x16).f1) x14 x15 (wrap64 (x16 + 1)))) else (if x7 = true then (zW.l0 k false true false true x14 x15 (wrap64 (x16 + 1))) else (zW.l0 k false true false false x14 x15 (wrap64 (x16 + 1)))))) else (if x6 = true then (if x7 = true then (zW.l0 k false false true true x14 x15 (wrap64 (x16 + 1))) else (if (rd_T36 x14 x16).f0 = true then (zW.l0 k false false true ((rd_T36 x14 x16).f1) x14 x15 (wrap64 (x16 + 1))) else (zW.l0 k false false true false x14 x15 (wrap64 (x16 + 1))))) else (if (rd_T36 x14 x16).f0 = true then (if x7 = true then (zW.l0 k false false (!((rd_T36 x14 x16).f1)) true x14 x15 (wrap64 (x16 + 1))) else (zW.l0 k false false (!((rd_T36 x14 x16).f1)) ((rd_T36 x14 x16).f1) x14 x15 (wrap64 (x16 + 1)))) else (if x7 = true then (zW.l0 k false false false true x14 x15 (wrap64 (x16 + 1))) else (zW.l0 k false false false false x14 x15 (wrap64 (x16 + 1))))))) else (if (rd_T36 x14 x16).f1 = true then (if x5 = true then (if x6 = true then (if x7 = true then (zW.l0 k (((rd_T36 x14 x16).f2) == 0) true true true x14 x15 (wrap64 (x16 + 1))) else (if (rd_T36 x14 x16).f0 = true then (zW.l0 k (((rd_T36 x14 x16).f2) == 0) true true ((rd_T36 x14 x16).f1) x14 x15 (wrap64 (x16 + 1))) else (zW.l0 k (((rd_T36 x14 x16).f2) == 0) true true false x14 x15 (wrap64 (x16 + 1))))) else (if (rd_T36 x14 x16).f0 = true then (if x7 = true then (zW.l0 k (((rd_T36 x14 x16).f2) == 0) true (!((rd_T36 x14 x16).f1)) true x14 x15 (wrap64 (x16 + 1))) else (zW.l0 k (((rd_T36 x14 x16).f2) == 0) true (!((rd_T36 x14 x16).f1)) ((rd_T36 x14 x16).f1) x14 x15 (wrap64 (x16 + 1)))) else (if x7 = true then (zW.l0 k (((rd_T36 x14 x16).f2) == 0) true false true x14 x15 (wrap64 (x16 + 1))) else (zW.l0 k (((rd_T36 x14 x16).f2) == 0) true false false x14 x15 (wrap64 (x16 + 1)))))) else (if x6 = true then (if x7 = true then (zW.l0 k (((rd_T36 x14 x16).f2) == 0) (((rd_T36 x14 x16).f2) != 0) true true x14 x15 (wrap64 (x16 + 1))) else (if (rd_T36 x14 x16).f0 = true then (zW.l0 k (((rd_T36 x14 x16).f2) == 0) (((rd_T36 x14 x16).f2) != 0) true ((rd_T36 x14 x16).f1) x14 x15 (wrap64 (x16 + 1))) else (zW.l0 k (((rd_T36 x14 x16).f2) == 0) (((rd_T36 x14 x16).f2) != 0) true false x14 x15 (wrap64 (x16 + 1))))) else (if (rd_T36 x14 x16).f0 = true then (if x7 = true then (zW.l0 k (((rd_T36 x14 x16).f2) == 0) (((rd_T36 x14 x16).f2) != 0) (!((rd_T36 x14 x16).f1)) true x14 x15 (wrap64 (x16 + 1))) else (zW.l0 k (((rd_T36 x14 x16).f2) == 0) (((rd_T36 x14 x16).f2) != 0) (!((rd_T36 x14 x16).f1)) ((rd_T36 x14 x16).f1) x14 x15 (wrap64 (x16 + 1)))) else (if x7 = true then (zW.l0 k (((rd_T36 x14 x16).f2) == 0) (((rd_T36 x14 x16).f2) != 0) false true x14 x15 (wrap64 (x16 + 1))) else (zW.l0 k (((rd_T36 x14 x16).f2) == 0) (((rd_T36 x14 x16).f2) != 0) false false x14 x15 (wrap64 (x16 + 1))))))) else (if x5 = true then (if x6 = true then (if x7 = true then (zW.l0 k false true true true x14 x15 (wrap64 (x16 + 1))) else (if (rd_T36 x14 x16).f0 = true then (zW.l0 k false true true ((rd_T36 x14 x16).f1) x14 x15 (wrap64 (x16 + 1))) else (zW.l0 k false true true false x14 x15 (wrap64 (x16 + 1))))) else (if (rd_T36 x14 x16).f0 = true then (if x7 = true then (zW.l0 k false true (!((rd_T36 x14 x16).f1)) true x14 x15 (wrap64 (x16 + 1))) else (zW.l0 k false true (!((rd_T36 x14 x16).f1)) ((rd_T36 x14 x16).f1) x14 x15 (wrap64 (x16 + 1)))) else (if x7 = true then (zW.l0 k false true false true x14 x15 (wrap64 (x16 + 1))) else (zW.l0 k false true false false x14 x15 (wrap64 (x16 + 1)))))) else (if x6 = true then (if x7 = true then (zW.l0 k false false true true x14 x15 (wrap64 (x16 + 1))) else (if (rd_T36 x14 x16).f0 = true then (zW.l0 k false false true ((rd_T36 x14 x16).f1) x14 x15 (wrap64 (x16 + 1))) else (zW.l0 k false false true false x14 x15 (wrap64 (x16 + 1))))) else (if (rd_T36 x14 x16).f0 = true then (if x7 = true then (zW.l0 k false false (!((rd_T36 x14 x16).f1)) true x14 x15 (wrap64 (x16 + 1))) else (zW.l0 k false false (!((rd_T36 x14 x16).f1)) ((rd_T36 x14 x16).f1) x14 x15 (wrap64 (x16 + 1)))) else (if x7 = true then (zW.l0 k false false false true x14 x15 (wrap64 (x16 + 1))) else (zW.l0 k false false false false x14 x15 (wrap64 (x16 + 1)))))))))) else (none)) else (none)) else (if x4 = true then (zW.j1 k x4 x5 x6 x7 x6) else (zW.j1 k x4 x5 x6 x7 false))
def zW.j1 : Nat → Bool → Bool → Bool → Bool → Bool → Option (ByteArray × Int)
 | 0, _, _, _, _, _ => none
 | k + 1, x4, x5, x6, x7, x70 => if x70 = true then (some ((⟨#[112, 50, 109, 109]⟩ : ByteArray), 0)) else (if x4 = true then (some ((⟨#[112, 49, 49, 109]⟩ : ByteArray), 0)) else (if x6 = true then (zW.j2 k x5 x6 x7 x7) else (zW.j2 k x5 x6 x7 false)))
def zW.j2 : Nat → Bool → Bool → Bool → Bool → Option (ByteArray × Int)
 | 0, _, _, _, _ => none
 | k + 1, x5, x6, x7, x77 => if x77 = true then (some ((⟨#[112, 50, 109, 103]⟩ : ByteArray), 0)) else (if x6 = true then (some ((⟨#[112, 49, 109, 49]⟩ : ByteArray), 0)) else (if x7 = true then (some ((⟨#[112, 50]⟩ : ByteArray), 0)) else (if x5 = true then (some ((⟨#[112, 49, 49, 103]⟩ : ByteArray), 0)) else (some ((⟨#[112, 49]⟩ : ByteArray), 0)))))
end
def zW.f (k : Nat) (a0_0 : Int) (a0_1 : Int) (l0_2 : List Int) : Option (ByteArray × Int) := (yW.f a0_0 a0_1 l0_2).bind fun t392 => (if t392 = true then ((zY.f k a0_0 a0_1 l0_2).bind fun t393 => (zW.l0 k false false false false t393 (t393.length : Int) 0)) else (some ((⟨#[]⟩ : ByteArray), 1)))
theorem zW.mono_l : ∀ k, (∀ y0 y1 y2 y3 y4 y5 y6, LeO (zW.l0 k y0 y1 y2 y3 y4 y5 y6) (zW.l0 (k + 1) y0 y1 y2 y3 y4 y5 y6)) ∧ (∀ y0 y1 y2 y3 y4, LeO (zW.j1 k y0 y1 y2 y3 y4) (zW.j1 (k + 1) y0 y1 y2 y3 y4)) ∧ (∀ y0 y1 y2 y3, LeO (zW.j2 k y0 y1 y2 y3) (zW.j2 (k + 1) y0 y1 y2 y3))
 | 0 => ⟨fun _ _ _ _ _ _ _ r h => by simp [zW.l0] at h, fun _ _ _ _ _ r h => by simp [zW.j1] at h, fun _ _ _ _ r h => by simp [zW.j2] at h⟩
 | k + 1 => by
  obtain ⟨ih0, ih1, ih2⟩ := zW.mono_l k
  refine ⟨?_, ?_, ?_⟩
  ·
   intro y0 y1 y2 y3 y4 y5 y6
   unfold zW.l0
   repeat' first
   | (with_reducible exact ih0 _ _ _ _ _ _ _)
   | (with_reducible exact ih1 _ _ _ _ _)
   | (with_reducible exact ih2 _ _ _ _)
   | (with_reducible exact zY.mono _ _ _ _)
   | (with_reducible exact LeO.refl _)
   | (with_reducible exact LeO.none _)
   | (with_reducible refine LeO.ite ?_ ?_)
   | (with_reducible refine LeO.bind ?_ (fun _ => ?_))
   | refine LeO.ite ?_ ?_
   | refine LeO.bind ?_ (fun _ => ?_)
  ·
   intro y0 y1 y2 y3 y4
   unfold zW.j1
   repeat' first
   | (with_reducible exact ih0 _ _ _ _ _ _ _)
   | (with_reducible exact ih1 _ _ _ _ _)
   | (with_reducible exact ih2 _ _ _ _)
   | (with_reducible exact zY.mono _ _ _ _)
   | (with_reducible exact LeO.refl _)
   | (with_reducible exact LeO.none _)
   | (with_reducible refine LeO.ite ?_ ?_)
   | (with_reducible refine LeO.bind ?_ (fun _ => ?_))
   | refine LeO.ite ?_ ?_
   | refine LeO.bind ?_ (fun _ => ?_)
  ·
   intro y0 y1 y2 y3
   unfold zW.j2
   repeat' first
   | (with_reducible exact ih0 _ _ _ _ _ _ _)
   | (with_reducible exact ih1 _ _ _ _ _)
   | (with_reducible exact ih2 _ _ _ _)
   | (with_reducible exact zY.mono _ _ _ _)
   | (with_reducible exact LeO.refl _)
   | (with_reducible exact LeO.none _)
   | (with_reducible refine LeO.ite ?_ ?_)
   | (with_reducible refine LeO.bind ?_ (fun _ => ?_))
   | refine LeO.ite ?_ ?_
   | refine LeO.bind ?_ (fun _ => ?_)
theorem zW.mono : ∀ a0 a1 a2 k, LeO (zW.f k a0 a1 a2) (zW.f (k + 1) a0 a1 a2) := by
 intro a0 a1 a2 k
 obtain ⟨ih0, ih1, ih2⟩ := zW.mono_l k
 unfold zW.f
 repeat' first
   | (with_reducible exact ih0 _ _ _ _ _ _ _)
   | (with_reducible exact ih1 _ _ _ _ _)
   | (with_reducible exact ih2 _ _ _ _)
   | (with_reducible exact zY.mono _ _ _ _)
   | (with_reducible exact LeO.refl _)
   | (with_reducible exact LeO.none _)
   | (with_reducible refine LeO.ite ?_ ?_)
   | (with_reducible refine LeO.bind ?_ (fun _ => ?_))
   | refine LeO.ite ?_ ?_
   | refine LeO.bind ?_ (fun _ => ?_)
def yJ.f (k : Nat) (a0_0 : Int) (a0_1 : Int) (l0_2 : List Int) : Option (Bool) := (yX.f a0_0 a0_1 l0_2 1048576).bind fun t399 => (if t399 < 0 then (some true) else ((yK.f k a0_0 a0_1 l0_2).bind fun bt400 => ((zX.f k bt400.1 bt400.2.1 bt400.2.2).bind fun bt405 => ((yK.f k a0_0 a0_1 l0_2).bind fun bt407 => ((zW.f k bt407.1 bt407.2.1 bt407.2.2).bind fun bt413 => (if bt413.1.toList = bt405.1.toList then (if bt413.2 = bt405.2 then ((yK.f k a0_0 a0_1 l0_2).bind fun bt415 => ((yL.f k bt407.1 bt407.2.1 bt407.2.2 bt415.1 bt415.2.1 bt415.2.2).bind fun t420 => (if t420 = true then (some true) else (none)))) else (none)) else (none)))))))
theorem yJ.mono : ∀ a0 a1 a2 k, LeO (yJ.f k a0 a1 a2) (yJ.f (k + 1) a0 a1 a2) := by
 intro a0 a1 a2 k
 unfold yJ.f
 repeat' first
   | (with_reducible exact zW.mono _ _ _ _)
   | (with_reducible exact yL.mono _ _ _ _ _ _ _)
   | (with_reducible exact yK.mono _ _ _ _)
   | (with_reducible exact zX.mono _ _ _ _)
   | (with_reducible exact LeO.refl _)
   | (with_reducible exact LeO.none _)
   | (with_reducible refine LeO.ite ?_ ?_)
   | (with_reducible refine LeO.bind ?_ (fun _ => ?_))
   | refine LeO.ite ?_ ?_
   | refine LeO.bind ?_ (fun _ => ?_)
def yG.l0 : Nat → List Int → Int → Int → Option (Int)
 | 0, _, _, _ => none
 | k + 1, x0, x1, x5 => if x5 < (x0.length : Int) then (if 0 ≤ x5 then (if (rd x0 x5) = x1 then (yG.l0 k x0 (wrap64 (x1 + 1)) (wrap64 (x5 + 1))) else (some (-1))) else (none)) else (some x1)
def yG.f (k : Nat) (l0 : List Int) (a1 : Int) : Option (Int) := yG.l0 k l0 a1 0
theorem yG.mono_l : ∀ k, (∀ y0 y1 y2, LeO (yG.l0 k y0 y1 y2) (yG.l0 (k + 1) y0 y1 y2))
 | 0 => fun _ _ _ r h => by simp [yG.l0] at h
 | k + 1 => by
  have ih0 := yG.mono_l k
  ·
   intro y0 y1 y2
   unfold yG.l0
   repeat' first
   | (with_reducible exact ih0 _ _ _)
   | (with_reducible exact LeO.refl _)
   | (with_reducible exact LeO.none _)
   | (with_reducible refine LeO.ite ?_ ?_)
   | (with_reducible refine LeO.bind ?_ (fun _ => ?_))
   | refine LeO.ite ?_ ?_
   | refine LeO.bind ?_ (fun _ => ?_)
theorem yG.mono : ∀ a0 a1 k, LeO (yG.f k a0 a1) (yG.f (k + 1) a0 a1) := by
 intro a0 a1 k
 have ih0 := yG.mono_l k
 unfold yG.f
 repeat' first
   | (with_reducible exact ih0 _ _ _)
   | (with_reducible exact LeO.refl _)
   | (with_reducible exact LeO.none _)
   | (with_reducible refine LeO.ite ?_ ?_)
   | (with_reducible refine LeO.bind ?_ (fun _ => ?_))
   | refine LeO.ite ?_ ?_
   | refine LeO.bind ?_ (fun _ => ?_)
def yF.l0 : Nat → List Int → Int → Int → Option (Int × List Int)
 | 0, _, _, _ => none
 | k + 1, x0, x1, x5 => if x5 < (x0.length : Int) then (if 0 ≤ x5 then (yF.l0 k (x0.set (x5 : Int).toNat x1) (wrap64 (x1 + 1)) (wrap64 (x5 + 1))) else (none)) else (some (x1, x0))
def yF.f (k : Nat) (l0 : List Int) (a1 : Int) : Option (Int × List Int) := yF.l0 k l0 a1 0
theorem yF.mono_l : ∀ k, (∀ y0 y1 y2, LeO (yF.l0 k y0 y1 y2) (yF.l0 (k + 1) y0 y1 y2))
 | 0 => fun _ _ _ r h => by simp [yF.l0] at h
 | k + 1 => by
  have ih0 := yF.mono_l k
  ·
   intro y0 y1 y2
   unfold yF.l0
   repeat' first
   | (with_reducible exact ih0 _ _ _)
   | (with_reducible exact LeO.refl _)
   | (with_reducible exact LeO.none _)
   | (with_reducible refine LeO.ite ?_ ?_)
   | (with_reducible refine LeO.bind ?_ (fun _ => ?_))
   | refine LeO.ite ?_ ?_
   | refine LeO.bind ?_ (fun _ => ?_)
theorem yF.mono : ∀ a0 a1 k, LeO (yF.f k a0 a1) (yF.f (k + 1) a0 a1) := by
 intro a0 a1 k
 have ih0 := yF.mono_l k
 unfold yF.f
 repeat' first
   | (with_reducible exact ih0 _ _ _)
   | (with_reducible exact LeO.refl _)
   | (with_reducible exact LeO.none _)
   | (with_reducible refine LeO.ite ?_ ?_)
   | (with_reducible refine LeO.bind ?_ (fun _ => ?_))
   | refine LeO.ite ?_ ?_
   | refine LeO.bind ?_ (fun _ => ?_)
def yN.f (k : Nat) (a0_0 : Int) (a0_1 : Int) (l0_2 : List Int) (a1 : Int) : Option (Int) := (yG.f k l0_2 a1).bind fun t224 => (if t224 < 0 then (some (-1)) else (some t224))
theorem yN.mono : ∀ a0 a1 a2 a3 k, LeO (yN.f k a0 a1 a2 a3) (yN.f (k + 1) a0 a1 a2 a3) := by
 intro a0 a1 a2 a3 k
 unfold yN.f
 repeat' first
   | (with_reducible exact yG.mono _ _ _)
   | (with_reducible exact LeO.refl _)
   | (with_reducible exact LeO.none _)
   | (with_reducible refine LeO.ite ?_ ?_)
   | (with_reducible refine LeO.bind ?_ (fun _ => ?_))
   | refine LeO.ite ?_ ?_
   | refine LeO.bind ?_ (fun _ => ?_)
def yO.f (k : Nat) (a0_0 : Int) (a0_1 : Int) (l0_2 : List Int) (a1 : Int) : Option (Int × List Int) := (yF.f k l0_2 a1).bind fun bt220 => (some (bt220.1, bt220.2))
theorem yO.mono : ∀ a0 a1 a2 a3 k, LeO (yO.f k a0 a1 a2 a3) (yO.f (k + 1) a0 a1 a2 a3) := by
 intro a0 a1 a2 a3 k
 unfold yO.f
 repeat' first
   | (with_reducible exact yF.mono _ _ _)
   | (with_reducible exact LeO.refl _)
   | (with_reducible exact LeO.none _)
   | (with_reducible refine LeO.ite ?_ ?_)
   | (with_reducible refine LeO.bind ?_ (fun _ => ?_))
   | refine LeO.ite ?_ ?_
   | refine LeO.bind ?_ (fun _ => ?_)
end Go.Proofs.Ytjjockhekaccnaa.X
