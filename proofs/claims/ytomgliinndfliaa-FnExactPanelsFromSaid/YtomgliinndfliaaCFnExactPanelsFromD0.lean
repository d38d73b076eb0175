/- Part of the proof of the law FnExactPanelsFrom: the functions that the code computes. No condition of its own. -/
import Derived.Test.YtomgliinndfliaaCFnExactPanelsFromV0
import Derived.Test.YtomgliinndfliaaProg
import Derived.Below
import Derived.Deep.Draws
import Derived.Deep.AppendLies
import Derived.Maps.AppendAt
import Derived.OwnWalk
import Derived.Laws.BytesArg
import Derived.Laws.MakeOwn
import Derived.Laws.OwnMore
import Derived.Deep.OwnRows
import Derived.Tactics
import Derived.Lib.ConvBytes
import Derived.Laws.Slices
import Derived.WalkKit
import Derived.KernelRfl
import Derived.RowKit3
import Derived.Deep.LoopGhost
import Derived.Deep.QuietTactic
import Derived.BigQuiet
import Derived.WideLaws
import Derived.Deep.DeepCutAuto
import Derived.Deep.CutBlock
import Derived.Deep.RegionHeld3
import Derived.Laws.Rows
import Derived.Lib.AppendStr
import Derived.ArgAppend
import Derived.Laws.IdiomCopy
import Derived.OrdersHeld
import Derived.Laws.BitsLemmas
import Derived.RowKit
namespace Go.Proofs.Ytomgliinndfliaa.X
open Go.RowKit Go.Proofs.YtomgliinndfliaaW.PrintWords Go.Proofs.YtomgliinndfliaaW.PrintLast Go.Proofs.YtomgliinndfliaaW.PrintMore
attribute [local go_sem] max2_int min2_int max_two min_two max_three min_three max_four min_four   -- for this text's walks alone
set_option linter.unusedVariables false
set_option linter.unusedSimpArgs false
def errW : Option Int → Value
  | none => .nilIface
  | some c => .iface 0 (.int .i64 c)
theorem errW_none : errW none = .nilIface := rfl
theorem errW_some (c : Int) : errW (some c) = .iface 0 (.int .i64 c) := rfl
theorem info2 : (Try.prog.info? 2).map (fun i => (i.zero, i.size, i.bytes)) = some (some (.int .i64 0), 1, 8) := by kernel_rfl
theorem info38 : (Try.prog.info? 38).map (fun i => (i.zero, i.size, i.bytes)) = some (some (.agg #[(.int .i64 0), (.int .i64 0)]), 2, 16) := by kernel_rfl
theorem info87 : (Try.prog.info? 87).map (fun i => (i.zero, i.size, i.bytes)) = some (some (.agg #[(.int .i64 0), (.int .i64 0), (.int .i64 0), (.int .i64 0)]), 4, 32) := by kernel_rfl
theorem info90 : (Try.prog.info? 90).map (fun i => (i.zero, i.size, i.bytes)) = some (some (.agg #[(.int .i64 0), (.int .i64 0), (.int .i64 0), (.int .i64 0), (.int .i64 0), (.int .i64 0)]), 6, 48) := by kernel_rfl
-- the values' own types
structure S38 where
  f0 : Int
  f1 : Int
def z38 : S38 := ⟨(0 : Int), (0 : Int)⟩
def k38 : Kd S38 := Kd.iso (Kd.pair (Kd.int .i64) (Kd.int .i64)) (fun x : S38 => (x.f0, x.f1))
theorem k38_open {w : World} {x : S38} {cs : List Value} (h : k38.K w x cs) : cs = [.int .i64 x.f0, .int .i64 x.f1] := by
  obtain ⟨_, _, rfl, rfl, rfl⟩ := h
  exact rfl
theorem k38_openM {w : World} {base : Nat} {ok : Nat → Prop} {x : S38} {cs : List Value} (h : k38.M w base ok x cs) : cs = [.int .i64 x.f0, .int .i64 x.f1] := by
  obtain ⟨_, _, rfl, rfl, rfl⟩ := h
  exact rfl
theorem k38_mk (w : World) (x : S38)  : k38.K w x [.int .i64 x.f0, .int .i64 x.f1] := ⟨[.int .i64 x.f0], [.int .i64 x.f1], rfl, rfl, rfl⟩
theorem k38_mkM (w : World) (base : Nat) (ok : Nat → Prop) (x : S38)  : k38.M w base ok x [.int .i64 x.f0, .int .i64 x.f1] := ⟨[.int .i64 x.f0], [.int .i64 x.f1], rfl, rfl, rfl⟩
theorem k38_mkF (W : World) (ok : Nat → Prop) (x : S38) : Kd.FK k38 W ok x [.int .i64 x.f0, .int .i64 x.f1] := fun W2 _ => k38_mk W2 x
def rd_T38 (xs : List S38) (i : Int) : S38 := xs.getD i.toNat z38
theorem at_T38 {w : World} {A : Option Addr} {n : Nat} {xs : List S38} (h : Kd.C k38 w A n xs) (i : Int) (h0 : 0 ≤ i) (h1 : i < n) : ∃ ad , A = some ad ∧ w.cell? (ad.add (i.toNat * 2)) = some (.int .i64 (rd_T38 xs i).f0) ∧ w.cell? ⟨(ad.add (i.toNat * 2)).block, (ad.add (i.toNat * 2)).off + 1, none⟩ = some (.int .i64 (rd_T38 xs i).f1) := by
  obtain ⟨ad, c, e, _, hK, hc0⟩ := Kd.C_get h z38 i h0 h1
  have hc : ∀ j u, c[j]? = some u → w.cell? (ad.add (i.toNat * 2 + j)) = some u := hc0
  obtain rfl := k38_open hK
  exact ⟨ad, e, hc 0 _ rfl, by rw [← add_field _ _ 1 (by omega)]; exact hc 1 _ rfl⟩
def rd_L2 (xs : List (List Int)) (i : Int) : (List Int) := xs.getD i.toNat ([] : List Int)
theorem at_L2 {w : World} {A : Option Addr} {n : Nat} {xs : List (List Int)} (h : Kd.C (Kd.slice 2 (Kd.int .i64)) w A n xs) (i : Int) (h0 : 0 ≤ i) (h1 : i < n) : ∃ ad A0 c0, A = some ad ∧ w.cell? (ad.add i.toNat) = some (.slice A0 (rd_L2 xs i).length c0) ∧ (rd_L2 xs i).length ≤ c0 ∧ (Kd.int .i64).C w A0 (rd_L2 xs i).length (rd_L2 xs i) := by
  obtain ⟨ad, c, e, _, hK, hc0⟩ := Kd.C_get h ([] : List Int) i h0 h1
  have hc : ∀ j u, c[j]? = some u → w.cell? (ad.add (i.toNat * 1 + j)) = some u := hc0
  obtain ⟨A0, c0, rfl, l0, g0⟩ := hK
  exact ⟨ad, A0, c0, e, by have hq := hc 0 _ rfl; rwa [Nat.mul_one, Nat.add_zero] at hq, l0, g0⟩
structure S95 where
  f0 : Int
  f1 : Int
def z95 : S95 := ⟨(0 : Int), (0 : Int)⟩
def k95 : Kd S95 := Kd.iso (Kd.pair (Kd.int .i64) (Kd.int .i64)) (fun x : S95 => (x.f0, x.f1))
theorem k95_open {w : World} {x : S95} {cs : List Value} (h : k95.K w x cs) : cs = [.int .i64 x.f0, .int .i64 x.f1] := by
  obtain ⟨_, _, rfl, rfl, rfl⟩ := h
  exact rfl
theorem k95_openM {w : World} {base : Nat} {ok : Nat → Prop} {x : S95} {cs : List Value} (h : k95.M w base ok x cs) : cs = [.int .i64 x.f0, .int .i64 x.f1] := by
  obtain ⟨_, _, rfl, rfl, rfl⟩ := h
  exact rfl
theorem k95_mk (w : World) (x : S95)  : k95.K w x [.int .i64 x.f0, .int .i64 x.f1] := ⟨[.int .i64 x.f0], [.int .i64 x.f1], rfl, rfl, rfl⟩
theorem k95_mkM (w : World) (base : Nat) (ok : Nat → Prop) (x : S95)  : k95.M w base ok x [.int .i64 x.f0, .int .i64 x.f1] := ⟨[.int .i64 x.f0], [.int .i64 x.f1], rfl, rfl, rfl⟩
theorem k95_mkF (W : World) (ok : Nat → Prop) (x : S95) : Kd.FK k95 W ok x [.int .i64 x.f0, .int .i64 x.f1] := fun W2 _ => k95_mk W2 x
def rd_T95 (xs : List S95) (i : Int) : S95 := xs.getD i.toNat z95
theorem at_T95 {w : World} {A : Option Addr} {n : Nat} {xs : List S95} (h : Kd.C k95 w A n xs) (i : Int) (h0 : 0 ≤ i) (h1 : i < n) : ∃ ad , A = some ad ∧ w.cell? (ad.add (i.toNat * 2)) = some (.int .i64 (rd_T95 xs i).f0) ∧ w.cell? ⟨(ad.add (i.toNat * 2)).block, (ad.add (i.toNat * 2)).off + 1, none⟩ = some (.int .i64 (rd_T95 xs i).f1) := by
  obtain ⟨ad, c, e, _, hK, hc0⟩ := Kd.C_get h z95 i h0 h1
  have hc : ∀ j u, c[j]? = some u → w.cell? (ad.add (i.toNat * 2 + j)) = some u := hc0
  obtain rfl := k95_open hK
  exact ⟨ad, e, hc 0 _ rfl, by rw [← add_field _ _ 1 (by omega)]; exact hc 1 _ rfl⟩
structure S87 where
  f0 : Int
  f1 : Int
  f2 : Int
  f3 : Int
def z87 : S87 := ⟨(0 : Int), (0 : Int), (0 : Int), (0 : Int)⟩
def k87 : Kd S87 := Kd.iso (Kd.pair (Kd.int .i64) (Kd.pair (Kd.int .i64) (Kd.pair (Kd.int .i64) (Kd.int .i64)))) (fun x : S87 => (x.f0, x.f1, x.f2, x.f3))
theorem k87_open {w : World} {x : S87} {cs : List Value} (h : k87.K w x cs) : cs = [.int .i64 x.f0, .int .i64 x.f1, .int .i64 x.f2, .int .i64 x.f3] := by
  obtain ⟨_, _, rfl, rfl, ⟨_, _, rfl, rfl, ⟨_, _, rfl, rfl, rfl⟩⟩⟩ := h
  exact rfl
theorem k87_openM {w : World} {base : Nat} {ok : Nat → Prop} {x : S87} {cs : List Value} (h : k87.M w base ok x cs) : cs = [.int .i64 x.f0, .int .i64 x.f1, .int .i64 x.f2, .int .i64 x.f3] := by
  obtain ⟨_, _, rfl, rfl, ⟨_, _, rfl, rfl, ⟨_, _, rfl, rfl, rfl⟩⟩⟩ := h
  exact rfl
theorem k87_mk (w : World) (x : S87)  : k87.K w x [.int .i64 x.f0, .int .i64 x.f1, .int .i64 x.f2, .int .i64 x.f3] := ⟨[.int .i64 x.f0], [.int .i64 x.f1, .int .i64 x.f2, .int .i64 x.f3], rfl, rfl, ⟨[.int .i64 x.f1], [.int .i64 x.f2, .int .i64 x.f3], rfl, rfl, ⟨[.int .i64 x.f2], [.int .i64 x.f3], rfl, rfl, rfl⟩⟩⟩
theorem k87_mkM (w : World) (base : Nat) (ok : Nat → Prop) (x : S87)  : k87.M w base ok x [.int .i64 x.f0, .int .i64 x.f1, .int .i64 x.f2, .int .i64 x.f3] := ⟨[.int .i64 x.f0], [.int .i64 x.f1, .int .i64 x.f2, .int .i64 x.f3], rfl, rfl, ⟨[.int .i64 x.f1], [.int .i64 x.f2, .int .i64 x.f3], rfl, rfl, ⟨[.int .i64 x.f2], [.int .i64 x.f3], rfl, rfl, rfl⟩⟩⟩
theorem k87_mkF (W : World) (ok : Nat → Prop) (x : S87) : Kd.FK k87 W ok x [.int .i64 x.f0, .int .i64 x.f1, .int .i64 x.f2, .int .i64 x.f3] := fun W2 _ => k87_mk W2 x
def rd_T87 (xs : List S87) (i : Int) : S87 := xs.getD i.toNat z87
theorem at_T87 {w : World} {A : Option Addr} {n : Nat} {xs : List S87} (h : Kd.C k87 w A n xs) (i : Int) (h0 : 0 ≤ i) (h1 : i < n) : ∃ ad , A = some ad ∧ w.cell? (ad.add (i.toNat * 4)) = some (.int .i64 (rd_T87 xs i).f0) ∧ w.cell? ⟨(ad.add (i.toNat * 4)).block, (ad.add (i.toNat * 4)).off + 1, none⟩ = some (.int .i64 (rd_T87 xs i).f1) ∧ w.cell? ⟨(ad.add (i.toNat * 4)).block, (ad.add (i.toNat * 4)).off + 2, none⟩ = some (.int .i64 (rd_T87 xs i).f2) ∧ w.cell? ⟨(ad.add (i.toNat * 4)).block, (ad.add (i.toNat * 4)).off + 3, none⟩ = some (.int .i64 (rd_T87 xs i).f3) := by
  obtain ⟨ad, c, e, _, hK, hc0⟩ := Kd.C_get h z87 i h0 h1
  have hc : ∀ j u, c[j]? = some u → w.cell? (ad.add (i.toNat * 4 + j)) = some u := hc0
  obtain rfl := k87_open hK
  exact ⟨ad, e, hc 0 _ rfl, by rw [← add_field _ _ 1 (by omega)]; exact hc 1 _ rfl, by rw [← add_field _ _ 2 (by omega)]; exact hc 2 _ rfl, by rw [← add_field _ _ 3 (by omega)]; exact hc 3 _ rfl⟩
structure S90 where
  f0 : S87
  f1 : S38
def z90 : S90 := ⟨z87, z38⟩
def k90 : Kd S90 := Kd.iso (Kd.pair k87 k38) (fun x : S90 => (x.f0, x.f1))
theorem k90_open {w : World} {x : S90} {cs : List Value} (h : k90.K w x cs) : cs = [.int .i64 x.f0.f0, .int .i64 x.f0.f1, .int .i64 x.f0.f2, .int .i64 x.f0.f3, .int .i64 x.f1.f0, .int .i64 x.f1.f1] := by
  obtain ⟨_, _, rfl, s0, s4⟩ := h
  obtain rfl := k87_open s0
  obtain rfl := k38_open s4
  exact rfl
theorem k90_openM {w : World} {base : Nat} {ok : Nat → Prop} {x : S90} {cs : List Value} (h : k90.M w base ok x cs) : cs = [.int .i64 x.f0.f0, .int .i64 x.f0.f1, .int .i64 x.f0.f2, .int .i64 x.f0.f3, .int .i64 x.f1.f0, .int .i64 x.f1.f1] := by
  obtain ⟨_, _, rfl, s0, s4⟩ := h
  obtain rfl := k87_openM s0
  obtain rfl := k38_openM s4
  exact rfl
theorem k90_mk (w : World) (x : S90)  : k90.K w x [.int .i64 x.f0.f0, .int .i64 x.f0.f1, .int .i64 x.f0.f2, .int .i64 x.f0.f3, .int .i64 x.f1.f0, .int .i64 x.f1.f1] := ⟨[.int .i64 x.f0.f0, .int .i64 x.f0.f1, .int .i64 x.f0.f2, .int .i64 x.f0.f3], [.int .i64 x.f1.f0, .int .i64 x.f1.f1], rfl, (k87_mk w x.f0 ), (k38_mk w x.f1 )⟩
theorem k90_mkM (w : World) (base : Nat) (ok : Nat → Prop) (x : S90)  : k90.M w base ok x [.int .i64 x.f0.f0, .int .i64 x.f0.f1, .int .i64 x.f0.f2, .int .i64 x.f0.f3, .int .i64 x.f1.f0, .int .i64 x.f1.f1] := ⟨[.int .i64 x.f0.f0, .int .i64 x.f0.f1, .int .i64 x.f0.f2, .int .i64 x.f0.f3], [.int .i64 x.f1.f0, .int .i64 x.f1.f1], rfl, (k87_mkM w base ok x.f0 ), (k38_mkM w base ok x.f1 )⟩
theorem k90_mkF (W : World) (ok : Nat → Prop) (x : S90) : Kd.FK k90 W ok x [.int .i64 x.f0.f0, .int .i64 x.f0.f1, .int .i64 x.f0.f2, .int .i64 x.f0.f3, .int .i64 x.f1.f0, .int .i64 x.f1.f1] := fun W2 _ => k90_mk W2 x
def rd_T90 (xs : List S90) (i : Int) : S90 := xs.getD i.toNat z90
theorem at_T90 {w : World} {A : Option Addr} {n : Nat} {xs : List S90} (h : Kd.C k90 w A n xs) (i : Int) (h0 : 0 ≤ i) (h1 : i < n) : ∃ ad , A = some ad ∧ w.cell? (ad.add (i.toNat * 6)) = some (.int .i64 (rd_T90 xs i).f0.f0) ∧ w.cell? ⟨(ad.add (i.toNat * 6)).block, (ad.add (i.toNat * 6)).off + 1, none⟩ = some (.int .i64 (rd_T90 xs i).f0.f1) ∧ w.cell? ⟨(ad.add (i.toNat * 6)).block, (ad.add (i.toNat * 6)).off + 2, none⟩ = some (.int .i64 (rd_T90 xs i).f0.f2) ∧ w.cell? ⟨(ad.add (i.toNat * 6)).block, (ad.add (i.toNat * 6)).off + 3, none⟩ = some (.int .i64 (rd_T90 xs i).f0.f3) ∧ w.cell? ⟨(ad.add (i.toNat * 6)).block, (ad.add (i.toNat * 6)).off + 4, none⟩ = some (.int .i64 (rd_T90 xs i).f1.f0) ∧ w.cell? ⟨(ad.add (i.toNat * 6)).block, (ad.add (i.toNat * 6)).off + 5, none⟩ = some (.int .i64 (rd_T90 xs i).f1.f1) := by
  obtain ⟨ad, c, e, _, hK, hc0⟩ := Kd.C_get h z90 i h0 h1
  have hc : ∀ j u, c[j]? = some u → w.cell? (ad.add (i.toNat * 6 + j)) = some u := hc0
  obtain rfl := k90_open hK
  exact ⟨ad, e, hc 0 _ rfl, by rw [← add_field _ _ 1 (by omega)]; exact hc 1 _ rfl, by rw [← add_field _ _ 2 (by omega)]; exact hc 2 _ rfl, by rw [← add_field _ _ 3 (by omega)]; exact hc 3 _ rfl, by rw [← add_field _ _ 4 (by omega)]; exact hc 4 _ rfl, by rw [← add_field _ _ 5 (by omega)]; exact hc 5 _ rfl⟩
def wO.f (l0 : List Int) (a1 : Int) : Option (Int) := if (wrap64 (a1 - (l0.length : Int))) < 0 then (some (-1)) else (some (wrap64 (a1 - (l0.length : Int))))
def wJ.f (a0_0 : Int) (a0_1 : Int) (a0_2 : Int) (a0_3 : Int) (l0_4 : List Int) (a1 : Int) : Option (Int) := (wO.f l0_4 a1).bind fun t102 => (if t102 < 0 then (some (-1)) else (some t102))
def wQ.f (a0_0 : Int) (a0_1 : Int) (a0_2 : Int) : Option (Int × Int × Int) := some (a0_0, a0_1, a0_2)
def yZ.l0 : Nat → List Int → List Int → Int → Option (List Int)
 | 0, _, _, _ => none
 | k + 1, x0, x3, x4 => if x4 < (x0.length : Int) then (if 0 ≤ x4 then (if x4 < (x3.length : Int) then (yZ.l0 k x0 (x3.set (x4 : Int).toNat (rd x0 x4)) (wrap64 (x4 + 1))) else (none)) else (none)) else (some x3)
def yZ.f (k : Nat) (l0 : List Int) : Option (List Int) := if 0 ≤ (l0.length : Int) then (if ((l0.length : Int) : Int).toNat ≤ 35184372088832 then (yZ.l0 k l0 (List.replicate ((l0.length : Int) : Int).toNat 0) 0) else (none)) else (none)
theorem yZ.mono_l : ∀ k, (∀ y0 y1 y2, LeO (yZ.l0 k y0 y1 y2) (yZ.l0 (k + 1) y0 y1 y2))
 | 0 => fun _ _ _ r h => by simp [yZ.l0] at h
 | k + 1 => by
  have ih0 := yZ.mono_l k
  ·
   intro y0 y1 y2
   unfold yZ.l0
   repeat' first
   | (with_reducible exact ih0 _ _ _)
   | (with_reducible exact LeO.refl _)
   | (with_reducible exact LeO.none _)
   | (with_reducible refine LeO.ite ?_ ?_)
   | (with_reducible refine LeO.bind ?_ (fun _ => ?_))
   | refine LeO.ite ?_ ?_
   | refine LeO.bind ?_ (fun _ => ?_)
theorem yZ.mono : ∀ a0 k, LeO (yZ.f k a0) (yZ.f (k + 1) a0) := by
 intro a0 k
 have ih0 := yZ.mono_l k
 unfold yZ.f
 repeat' first
   | (with_reducible exact ih0 _ _ _)
   | (with_reducible exact LeO.refl _)
   | (with_reducible exact LeO.none _)
   | (with_reducible refine LeO.ite ?_ ?_)
   | (with_reducible refine LeO.bind ?_ (fun _ => ?_))
   | refine LeO.ite ?_ ?_
   | refine LeO.bind ?_ (fun _ => ?_)
def xF.f (k : Nat) (a0_0 : Int) (a0_1 : Int) (a0_2 : Int) (a0_3 : Int) (l0_4 : List Int) : Option (Int × Int × Int × Int × List Int) := (wQ.f a0_1 a0_2 a0_3).bind fun bt192 => ((yZ.f k l0_4).bind fun t195 => (some (a0_0, bt192.1, bt192.2.1, bt192.2.2, t195)))
theorem xF.mono : ∀ a0 a1 a2 a3 a4 k, LeO (xF.f k a0 a1 a2 a3 a4) (xF.f (k + 1) a0 a1 a2 a3 a4) := by
 intro a0 a1 a2 a3 a4 k
 unfold xF.f
 repeat' first
   | (with_reducible exact yZ.mono _ _)
   | (with_reducible exact LeO.refl _)
   | (with_reducible exact LeO.none _)
   | (with_reducible refine LeO.ite ?_ ?_)
   | (with_reducible refine LeO.bind ?_ (fun _ => ?_))
   | refine LeO.ite ?_ ?_
   | refine LeO.bind ?_ (fun _ => ?_)
def wC.f (a0_0 : Int) (a0_1 : Int) (a0_2 : Int) (a1_0 : Int) (a1_1 : Int) (a1_2 : Int) : Option (Bool) := if a0_0 = a1_0 then (if a0_1 = a1_1 then (if a0_2 = a1_2 then (some true) else (some false)) else (some false)) else (some false)
def yY.l0 : Nat → List Int → List Int → Int → Option (Bool)
 | 0, _, _, _ => none
 | k + 1, x0, x1, x5 => if x5 < (x0.length : Int) then (if 0 ≤ x5 then (if x5 < (x1.length : Int) then (if (rd x0 x5) = (rd x1 x5) then (yY.l0 k x0 x1 (wrap64 (x5 + 1))) else (some false)) else (none)) else (none)) else (some true)
def yY.f (k : Nat) (l0 : List Int) (l1 : List Int) : Option (Bool) := if (l0.length : Int) = (l1.length : Int) then (yY.l0 k l0 l1 0) else (some false)
theorem yY.mono_l : ∀ k, (∀ y0 y1 y2, LeO (yY.l0 k y0 y1 y2) (yY.l0 (k + 1) y0 y1 y2))
 | 0 => fun _ _ _ r h => by simp [yY.l0] at h
 | k + 1 => by
  have ih0 := yY.mono_l k
  ·
   intro y0 y1 y2
   unfold yY.l0
   repeat' first
   | (with_reducible exact ih0 _ _ _)
   | (with_reducible exact LeO.refl _)
   | (with_reducible exact LeO.none _)
   | (with_reducible refine LeO.ite ?_ ?_)
   | (with_reducible refine LeO.bind ?_ (fun _ => ?_))
   | refine LeO.ite ?_ ?_
   | refine LeO.bind ?_ (fun _ => ?_)
theorem yY.mono : ∀ a0 a1 k, LeO (yY.f k a0 a1) (yY.f (k + 1) a0 a1) := by
 intro a0 a1 k
 have ih0 := yY.mono_l k
 unfold yY.f
 repeat' first
   | (with_reducible exact ih0 _ _ _)
   | (with_reducible exact LeO.refl _)
   | (with_reducible exact LeO.none _)
   | (with_reducible refine LeO.ite ?_ ?_)
   | (with_reducible refine LeO.bind ?_ (fun _ => ?_))
   | refine LeO.ite ?_ ?_
   | refine LeO.bind ?_ (fun _ => ?_)
def xJ.f (k : Nat) (a0_0 : Int) (a0_1 : Int) (a0_2 : Int) (a0_3 : Int) (l0_4 : List Int) (a1_0 : Int) (a1_1 : Int) (a1_2 : Int) (a1_3 : Int) (l1_4 : List Int) : Option (Bool) := if a0_0 = a1_0 then ((wC.f a0_1 a0_2 a0_3 a1_1 a1_2 a1_3).bind fun t271 => (if t271 = true then ((yY.f k l0_4 l1_4).bind fun t272 => (if t272 = true then (some true) else (some false))) else (some false))) else (some false)
theorem xJ.mono : ∀ a0 a1 a2 a3 a4 a5 a6 a7 a8 a9 k, LeO (xJ.f k a0 a1 a2 a3 a4 a5 a6 a7 a8 a9) (xJ.f (k + 1) a0 a1 a2 a3 a4 a5 a6 a7 a8 a9) := by
 intro a0 a1 a2 a3 a4 a5 a6 a7 a8 a9 k
 unfold xJ.f
 repeat' first
   | (with_reducible exact yY.mono _ _ _)
   | (with_reducible exact LeO.refl _)
   | (with_reducible exact LeO.none _)
   | (with_reducible refine LeO.ite ?_ ?_)
   | (with_reducible refine LeO.bind ?_ (fun _ => ?_))
   | refine LeO.ite ?_ ?_
   | refine LeO.bind ?_ (fun _ => ?_)
def xG.f (a0 : Int) (a1 : Int) (a2 : Int) : Option (Bool) := if a0 ≥ a1 then (some (decide (a0 ≤ a2))) else (some false)
def yV.l0 : Nat → List Int → Int → Int → Int → Int → Option (Bool)
 | 0, _, _, _, _, _ => none
 | k + 1, x0, x1, x2, x3, x9 => if x9 < (x0.length : Int) then (if 0 ≤ x9 then ((xG.f (rd x0 x9) x2 x3).bind fun t104 => (if t104 = true then (yV.l0 k x0 x1 x2 x3 (wrap64 (x9 + 1))) else (some false))) else (none)) else (some (decide ((x0.length : Int) ≤ x1)))
def yV.f (k : Nat) (l0 : List Int) (a1 : Int) (a2 : Int) (a3 : Int) : Option (Bool) := yV.l0 k l0 a1 a2 a3 0
theorem yV.mono_l : ∀ k, (∀ y0 y1 y2 y3 y4, LeO (yV.l0 k y0 y1 y2 y3 y4) (yV.l0 (k + 1) y0 y1 y2 y3 y4))
 | 0 => fun _ _ _ _ _ r h => by simp [yV.l0] at h
 | k + 1 => by
  have ih0 := yV.mono_l k
  ·
   intro y0 y1 y2 y3 y4
   unfold yV.l0
   repeat' first
   | (with_reducible exact ih0 _ _ _ _ _)
   | (with_reducible exact LeO.refl _)
   | (with_reducible exact LeO.none _)
   | (with_reducible refine LeO.ite ?_ ?_)
   | (with_reducible refine LeO.bind ?_ (fun _ => ?_))
   | refine LeO.ite ?_ ?_
   | refine LeO.bind ?_ (fun _ => ?_)
theorem yV.mono : ∀ a0 a1 a2 a3 k, LeO (yV.f k a0 a1 a2 a3) (yV.f (k + 1) a0 a1 a2 a3) := by
 intro a0 a1 a2 a3 k
 have ih0 := yV.mono_l k
 unfold yV.f
 repeat' first
   | (with_reducible exact ih0 _ _ _ _ _)
   | (with_reducible exact LeO.refl _)
   | (with_reducible exact LeO.none _)
   | (with_reducible refine LeO.ite ?_ ?_)
   | (with_reducible refine LeO.bind ?_ (fun _ => ?_))
   | refine LeO.ite ?_ ?_
   | refine LeO.bind ?_ (fun _ => ?_)
def wN.f (a0 : Int) : Option (Bool) := if a0 = 0 then (some true) else (some (a0 == 1))
def wH.f (a0_0 : Int) (a0_1 : Int) (a0_2 : Int) : Option (Bool) := (xG.f a0_0 1 64).bind fun t106 => (if t106 = true then ((xG.f a0_2 1 64).bind fun t107 => (if t107 = true then ((xG.f a0_1 0 (wrap64 (a0_0 - 1))).bind fun t108 => (if t108 = true then (some (decide ((wrap64 (a0_0 * a0_2)) ≤ 64))) else (some false))) else (some false))) else (some false))
def wI.f (a0 : Int) (a1_0 : Int) (a1_1 : Int) (a1_2 : Int) : Option (Int) := (wN.f a0).bind fun t110 => (if t110 = true then ((wH.f a1_0 a1_1 a1_2).bind fun t111 => (if t111 = true then (some 0) else (some 1))) else (some 1))
def xL.f (k : Nat) (a0_0 : Int) (a0_1 : Int) (a0_2 : Int) (a0_3 : Int) (l0_4 : List Int) : Option (Bool) := (wI.f a0_0 a0_1 a0_2 a0_3).bind fun t113 => (if t113 = 0 then (if (l0_4.length : Int) = (wrap64 (a0_1 * a0_3)) then ((yV.f k l0_4 64 0 9).bind fun t114 => (some t114)) else (some false)) else (some false))
theorem xL.mono : ∀ a0 a1 a2 a3 a4 k, LeO (xL.f k a0 a1 a2 a3 a4) (xL.f (k + 1) a0 a1 a2 a3 a4) := by
 intro a0 a1 a2 a3 a4 k
 unfold xL.f
 repeat' first
   | (with_reducible exact yV.mono _ _ _ _ _)
   | (with_reducible exact LeO.refl _)
   | (with_reducible exact LeO.none _)
   | (with_reducible refine LeO.ite ?_ ?_)
   | (with_reducible refine LeO.bind ?_ (fun _ => ?_))
   | refine LeO.ite ?_ ?_
   | refine LeO.bind ?_ (fun _ => ?_)
mutual
def yM.l0 : Nat → List (S38) → Int → Int → Int → Int → Option ((List (S38)))
 | 0, _, _, _, _, _ => none
 | k + 1, x3, x4, x127000, x127001, x127002 => if x4 < x127000 then (yM.l1 k x3 x4 0 x127000 x127001 x127002) else (some x3)
def yM.l1 : Nat → List (S38) → Int → Int → Int → Int → Int → Option ((List (S38)))
 | 0, _, _, _, _, _, _ => none
 | k + 1, x3, x4, x5, x127000, x127001, x127002 => if x5 < x127002 then (if x3.length < 8796093022208 then (yM.l1 k (x3 ++ [(⟨x4, x5⟩ : S38)]) x4 (wrap64 (x5 + 1)) x127000 x127001 x127002) else (none)) else (yM.l0 k x3 (wrap64 (x4 + 1)) x127000 x127001 x127002)
end
def yM.f (k : Nat) (a0_0 : Int) (a0_1 : Int) (a0_2 : Int) : Option ((List (S38))) := yM.l0 k (([] : List (S38))) 0 a0_0 a0_1 a0_2
theorem yM.mono_l : ∀ k, (∀ y0 y1 y2 y3 y4, LeO (yM.l0 k y0 y1 y2 y3 y4) (yM.l0 (k + 1) y0 y1 y2 y3 y4)) ∧ (∀ y0 y1 y2 y3 y4 y5, LeO (yM.l1 k y0 y1 y2 y3 y4 y5) (yM.l1 (k + 1) y0 y1 y2 y3 y4 y5))
 | 0 => ⟨fun _ _ _ _ _ r h => by simp [yM.l0] at h, fun _ _ _ _ _ _ r h => by simp [yM.l1] at h⟩
 | k + 1 => by
  obtain ⟨ih0, ih1⟩ := yM.mono_l k
  refine ⟨?_, ?_⟩
  ·
   intro y0 y1 y2 y3 y4
   unfold yM.l0
   repeat' first
   | (with_reducible exact ih0 _ _ _ _ _)
   | (with_reducible exact ih1 _ _ _ _ _ _)
   | (with_reducible exact LeO.refl _)
   | (with_reducible exact LeO.none _)
   | (with_reducible refine LeO.ite ?_ ?_)
   | (with_reducible refine LeO.bind ?_ (fun _ => ?_))
   | refine LeO.ite ?_ ?_
   | refine LeO.bind ?_ (fun _ => ?_)
  ·
   intro y0 y1 y2 y3 y4 y5
   unfold yM.l1
   repeat' first
   | (with_reducible exact ih0 _ _ _ _ _)
   | (with_reducible exact ih1 _ _ _ _ _ _)
   | (with_reducible exact LeO.refl _)
   | (with_reducible exact LeO.none _)
   | (with_reducible refine LeO.ite ?_ ?_)
   | (with_reducible refine LeO.bind ?_ (fun _ => ?_))
   | refine LeO.ite ?_ ?_
   | refine LeO.bind ?_ (fun _ => ?_)
theorem yM.mono : ∀ a0 a1 a2 k, LeO (yM.f k a0 a1 a2) (yM.f (k + 1) a0 a1 a2) := by
 intro a0 a1 a2 k
 obtain ⟨ih0, ih1⟩ := yM.mono_l k
 unfold yM.f
 repeat' first
   | (with_reducible exact ih0 _ _ _ _ _)
   | (with_reducible exact ih1 _ _ _ _ _ _)
   | (with_reducible exact LeO.refl _)
   | (with_reducible exact LeO.none _)
   | (with_reducible refine LeO.ite ?_ ?_)
   | (with_reducible refine LeO.bind ?_ (fun _ => ?_))
   | refine LeO.ite ?_ ?_
   | refine LeO.bind ?_ (fun _ => ?_)
def wV.f  : Option (Int × Int × Int × Int) := some (1, 0, 0, 1)
def wU.f (a0_0 : Int) (a0_1 : Int) (a1_0 : Int) (a1_1 : Int) : Option (Int × Int) := some (wrap64 (a0_0 + a1_0), wrap64 (a0_1 + a1_1))
def wS.f (a0_0 : Int) (a0_1 : Int) (a0_2 : Int) (a0_3 : Int) (a1_0 : Int) (a1_1 : Int) : Option (Int × Int) := some (wrap64 ((wrap64 (a0_0 * a1_0)) + (wrap64 (a0_1 * a1_1))), wrap64 ((wrap64 (a0_2 * a1_0)) + (wrap64 (a0_3 * a1_1))))
def xX.f (a0_0 : Int) (a0_1 : Int) (a0_2 : Int) (a0_3 : Int) (a0_4 : Int) (a0_5 : Int) (a1_0 : Int) (a1_1 : Int) : Option (Int × Int) := (wS.f a0_0 a0_1 a0_2 a0_3 a1_0 a1_1).bind fun bt395 => ((wU.f bt395.1 bt395.2 a0_4 a0_5).bind fun bt397 => (some (bt397.1, bt397.2)))
def xU.f (a0 : Int) (a1 : Int) : Option (Int) := if a1 = 0 then (none) else (if (Int.tmod a0 a1) < 0 then (some (wrap64 ((Int.tmod a0 a1) + a1))) else (some (Int.tmod a0 a1)))
def wG.f (a0_0 : Int) (a0_1 : Int) (a0_2 : Int) (a1_0 : Int) (a1_1 : Int) : Option (Int × Int) := (xU.f a1_1 a0_2).bind fun t136 => (if a0_2 = 0 then (none) else ((xU.f (wrap64 (a1_0 - (wrap64 ((wrap64 (Int.tdiv (wrap64 (a1_1 - t136)) a0_2)) * a0_1)))) a0_0).bind fun t137 => (some (t137, t136))))
def wP.f (a0_0 : Int) (a0_1 : Int) (a0_2 : Int) (a1_0 : Int) (a1_1 : Int) : Option (Int) := (wG.f a0_0 a0_1 a0_2 a1_0 a1_1).bind fun bt140 => (some (wrap64 ((wrap64 (bt140.1 * a0_2)) + bt140.2)))
def xV.f (a0_0 : Int) (a0_1 : Int) (a0_2 : Int) (a0_3 : Int) (l0_4 : List Int) (a1_0 : Int) (a1_1 : Int) : Option (Int) := (wP.f a0_1 a0_2 a0_3 a1_0 a1_1).bind fun t1306 => (if 0 ≤ t1306 then (if t1306 < (l0_4.length : Int) then (some (rd l0_4 t1306)) else (none)) else (none))
def yT.l0 : Nat → List (S38) → Int → Int → Int → Int → Int → List Int → Int → Int → Int → Int → Int → Int → Option (Bool)
 | 0, _, _, _, _, _, _, _, _, _, _, _, _, _ => none
 | k + 1, x5, x6, x1324000, x1324001, x1324002, x1324003, x1324004, x1325000, x1325001, x1325002, x1325003, x1325004, x1325005 => if x6 < (x5.length : Int) then (if 0 ≤ x6 then ((xX.f x1325000 x1325001 x1325002 x1325003 x1325004 x1325005 ((rd_T38 x5 x6).f0) ((rd_T38 x5 x6).f1)).bind fun bt1329 => ((xV.f x1324000 x1324001 x1324002 x1324003 x1324004 bt1329.1 bt1329.2).bind fun t1331 => ((xV.f x1324000 x1324001 x1324002 x1324003 x1324004 ((rd_T38 x5 x6).f0) ((rd_T38 x5 x6).f1)).bind fun t1333 => (if t1331 = t1333 then (yT.l0 k x5 (wrap64 (x6 + 1)) x1324000 x1324001 x1324002 x1324003 x1324004 x1325000 x1325001 x1325002 x1325003 x1325004 x1325005) else (some false))))) else (none)) else (some true)
def yT.f (k : Nat) (a0_0 : Int) (a0_1 : Int) (a0_2 : Int) (a0_3 : Int) (l0_4 : List Int) (a1_0 : Int) (a1_1 : Int) (a1_2 : Int) (a1_3 : Int) (a1_4 : Int) (a1_5 : Int) : Option (Bool) := (yM.f k a0_1 a0_2 a0_3).bind fun t1325 => (yT.l0 k t1325 0 a0_0 a0_1 a0_2 a0_3 l0_4 a1_0 a1_1 a1_2 a1_3 a1_4 a1_5)
theorem yT.mono_l : ∀ k, (∀ y0 y1 y2 y3 y4 y5 y6 y7 y8 y9 y10 y11 y12, LeO (yT.l0 k y0 y1 y2 y3 y4 y5 y6 y7 y8 y9 y10 y11 y12) (yT.l0 (k + 1) y0 y1 y2 y3 y4 y5 y6 y7 y8 y9 y10 y11 y12))
 | 0 => fun _ _ _ _ _ _ _ _ _ _ _ _ _ r h => by simp [yT.l0] at h
 | k + 1 => by
  have ih0 := yT.mono_l k
  ·
   intro y0 y1 y2 y3 y4 y5 y6 y7 y8 y9 y10 y11 y12
   unfold yT.l0
   repeat' first
   | (with_reducible exact ih0 _ _ _ _ _ _ _ _ _ _ _ _ _)
   | (with_reducible exact yM.mono _ _ _ _)
   | (with_reducible exact LeO.refl _)
   | (with_reducible exact LeO.none _)
   | (with_reducible refine LeO.ite ?_ ?_)
   | (with_reducible refine LeO.bind ?_ (fun _ => ?_))
   | refine LeO.ite ?_ ?_
   | refine LeO.bind ?_ (fun _ => ?_)
theorem yT.mono : ∀ a0 a1 a2 a3 a4 a5 a6 a7 a8 a9 a10 k, LeO (yT.f k a0 a1 a2 a3 a4 a5 a6 a7 a8 a9 a10) (yT.f (k + 1) a0 a1 a2 a3 a4 a5 a6 a7 a8 a9 a10) := by
 intro a0 a1 a2 a3 a4 a5 a6 a7 a8 a9 a10 k
 have ih0 := yT.mono_l k
 unfold yT.f
 repeat' first
   | (with_reducible exact ih0 _ _ _ _ _ _ _ _ _ _ _ _ _)
   | (with_reducible exact yM.mono _ _ _ _)
   | (with_reducible exact LeO.refl _)
   | (with_reducible exact LeO.none _)
   | (with_reducible refine LeO.ite ?_ ?_)
   | (with_reducible refine LeO.bind ?_ (fun _ => ?_))
   | refine LeO.ite ?_ ?_
   | refine LeO.bind ?_ (fun _ => ?_)
def wM.f (a0_0 : Int) (a0_1 : Int) (a0_2 : Int) : Option ((List (S38))) := some (([(⟨a0_0, 0⟩ : S38), (⟨a0_1, a0_2⟩ : S38)] : List (S38)))
def xD.f : Nat → Int → Int → Option (Int)
 | 0, _, _ => none
 | k + 1, a0, a1 => if a1 = 0 then (some (mx a0 (wrap64 (-a0)))) else ((xD.f k a1 (Int.tmod a0 a1)).bind fun t357 => (some t357))
theorem xD.mono_l : ∀ k, (∀ y0 y1, LeO (xD.f k y0 y1) (xD.f (k + 1) y0 y1))
 | 0 => fun _ _ r h => by simp [xD.f] at h
 | k + 1 => by
  have ih0 := xD.mono_l k
  ·
   intro y0 y1
   unfold xD.f
   repeat' first
   | (with_reducible exact ih0 _ _)
   | (with_reducible exact LeO.refl _)
   | (with_reducible exact LeO.none _)
   | (with_reducible refine LeO.ite ?_ ?_)
   | (with_reducible refine LeO.bind ?_ (fun _ => ?_))
   | refine LeO.ite ?_ ?_
   | refine LeO.bind ?_ (fun _ => ?_)
theorem xD.mono : ∀ a0 a1 k, LeO (xD.f k a0 a1) (xD.f (k + 1) a0 a1) := by
 intro a0 a1 k
 have ih0 := xD.mono_l k
 exact ih0 a0 a1
def wT.f (a0_0 : Int) (a0_1 : Int) (a1 : Int) : Option (Int × Int) := some (wrap64 (a1 * a0_0), wrap64 (a1 * a0_1))
mutual
def yJ.l0 : Nat → List (S38) → Int → Int → Int → Int → Option (Int × Int × Int)
 | 0, _, _, _, _, _ => none
 | k + 1, x0, x4, x5, x362000, x362001 => if x5 < (x0.length : Int) then (if 0 ≤ x5 then (yJ.l1 k x0 x4 x5 x362000 x362001 ((rd_T38 x0 x5).f0) ((rd_T38 x0 x5).f1)) else (none)) else (if x362001 < 0 then ((wT.f x362000 x362001 (-1)).bind fun bt367 => (if x4 > 0 then ((xU.f bt367.1 x4).bind fun t369 => (some (x4, t369, bt367.2))) else (some (x4, bt367.1, bt367.2)))) else (if x4 > 0 then ((xU.f x362000 x4).bind fun t370 => (some (x4, t370, x362001))) else (some (x4, x362000, x362001))))
def yJ.l1 : Nat → List (S38) → Int → Int → Int → Int → Int → Int → Option (Int × Int × Int)
 | 0, _, _, _, _, _, _, _ => none
 | k + 1, x0, x4, x5, x362000, x362001, x364000, x364001 => if x364001 = 0 then ((xD.f k x4 x364000).bind fun t365 => (if t365 > 0 then ((xU.f x362000 t365).bind fun t366 => (yJ.l0 k x0 t365 (wrap64 (x5 + 1)) t366 x362001)) else (yJ.l0 k x0 t365 (wrap64 (x5 + 1)) x362000 x362001))) else (yJ.l1 k x0 x4 x5 x364000 x364001 (wrap64 (x362000 - (wrap64 ((wrap64 (Int.tdiv x362001 x364001)) * x364000)))) (wrap64 (x362001 - (wrap64 ((wrap64 (Int.tdiv x362001 x364001)) * x364001)))))
end
def yJ.f (k : Nat) (l0 : List (S38)) : Option (Int × Int × Int) := yJ.l0 k l0 0 0 0 0
theorem yJ.mono_l : ∀ k, (∀ y0 y1 y2 y3 y4, LeO (yJ.l0 k y0 y1 y2 y3 y4) (yJ.l0 (k + 1) y0 y1 y2 y3 y4)) ∧ (∀ y0 y1 y2 y3 y4 y5 y6, LeO (yJ.l1 k y0 y1 y2 y3 y4 y5 y6) (yJ.l1 (k + 1) y0 y1 y2 y3 y4 y5 y6))
 | 0 => ⟨fun _ _ _ _ _ r h => by simp [yJ.l0] at h, fun _ _ _ _ _ _ _ r h => by simp [yJ.l1] at h⟩
 | k + 1 => by
  obtain ⟨ih0, ih1⟩ := yJ.mono_l k
  refine ⟨?_, ?_⟩
  ·
   intro y0 y1 y2 y3 y4
   unfold yJ.l0
   repeat' first
   | (with_reducible exact ih0 _ _ _ _ _)
   | (with_reducible exact ih1 _ _ _ _ _ _ _)
   | (with_reducible exact xD.mono _ _ _)
   | (with_reducible exact LeO.refl _)
   | (with_reducible exact LeO.none _)
   | (with_reducible refine LeO.ite ?_ ?_)
   | (with_reducible refine LeO.bind ?_ (fun _ => ?_))
   | refine LeO.ite ?_ ?_
   | refine LeO.bind ?_ (fun _ => ?_)
  ·
   intro y0 y1 y2 y3 y4 y5 y6
   unfold yJ.l1
   repeat' first
   | (with_reducible exact ih0 _ _ _ _ _)
   | (with_reducible exact ih1 _ _ _ _ _ _ _)
   | (with_reducible exact xD.mono _ _ _)
   | (with_reducible exact LeO.refl _)
   | (with_reducible exact LeO.none _)
   | (with_reducible refine LeO.ite ?_ ?_)
   | (with_reducible refine LeO.bind ?_ (fun _ => ?_))
   | refine LeO.ite ?_ ?_
   | refine LeO.bind ?_ (fun _ => ?_)
theorem yJ.mono : ∀ a0 k, LeO (yJ.f k a0) (yJ.f (k + 1) a0) := by
 intro a0 k
 obtain ⟨ih0, ih1⟩ := yJ.mono_l k
 unfold yJ.f
 repeat' first
   | (with_reducible exact ih0 _ _ _ _ _)
   | (with_reducible exact ih1 _ _ _ _ _ _ _)
   | (with_reducible exact xD.mono _ _ _)
   | (with_reducible exact LeO.refl _)
   | (with_reducible exact LeO.none _)
   | (with_reducible refine LeO.ite ?_ ?_)
   | (with_reducible refine LeO.bind ?_ (fun _ => ?_))
   | refine LeO.ite ?_ ?_
   | refine LeO.bind ?_ (fun _ => ?_)
def yU.l0 : Nat → List (S38) → List (S38) → Int → Int → Int → Int → Int → List Int → Option (Int × Int × Int)
 | 0, _, _, _, _, _, _, _, _ => none
 | k + 1, x3, x4, x5, x1335000, x1335001, x1335002, x1335003, x1335004 => if x5 < (x3.length : Int) then ((wV.f).bind fun bt1345 => (if 0 ≤ x5 then ((yT.f k x1335000 x1335001 x1335002 x1335003 x1335004 bt1345.1 bt1345.2.1 bt1345.2.2.1 bt1345.2.2.2 ((rd_T38 x3 x5).f0) ((rd_T38 x3 x5).f1)).bind fun t1350 => (if t1350 = true then (if x4.length < 8796093022208 then (yU.l0 k x3 (x4 ++ [(⟨(rd_T38 x3 x5).f0, (rd_T38 x3 x5).f1⟩ : S38)]) (wrap64 (x5 + 1)) x1335000 x1335001 x1335002 x1335003 x1335004) else (none)) else (yU.l0 k x3 x4 (wrap64 (x5 + 1)) x1335000 x1335001 x1335002 x1335003 x1335004))) else (none))) else ((yJ.f k x4).bind fun bt1342 => (some (bt1342.1, bt1342.2.1, bt1342.2.2)))
def yU.f (k : Nat) (a0_0 : Int) (a0_1 : Int) (a0_2 : Int) (a0_3 : Int) (l0_4 : List Int) : Option (Int × Int × Int) := (yM.f k a0_1 a0_2 a0_3).bind fun t1336 => ((wM.f a0_1 a0_2 a0_3).bind fun t1339 => (yU.l0 k t1336 t1339 0 a0_0 a0_1 a0_2 a0_3 l0_4))
theorem yU.mono_l : ∀ k, (∀ y0 y1 y2 y3 y4 y5 y6 y7, LeO (yU.l0 k y0 y1 y2 y3 y4 y5 y6 y7) (yU.l0 (k + 1) y0 y1 y2 y3 y4 y5 y6 y7))
 | 0 => fun _ _ _ _ _ _ _ _ r h => by simp [yU.l0] at h
 | k + 1 => by
  have ih0 := yU.mono_l k
  ·
   intro y0 y1 y2 y3 y4 y5 y6 y7
   unfold yU.l0
   repeat' first
   | (with_reducible exact ih0 _ _ _ _ _ _ _ _)
   | (with_reducible exact yM.mono _ _ _ _)
   | (with_reducible exact yJ.mono _ _)
   | (with_reducible exact yT.mono _ _ _ _ _ _ _ _ _ _ _ _)
   | (with_reducible exact LeO.refl _)
   | (with_reducible exact LeO.none _)
   | (with_reducible refine LeO.ite ?_ ?_)
   | (with_reducible refine LeO.bind ?_ (fun _ => ?_))
   | refine LeO.ite ?_ ?_
   | refine LeO.bind ?_ (fun _ => ?_)
theorem yU.mono : ∀ a0 a1 a2 a3 a4 k, LeO (yU.f k a0 a1 a2 a3 a4) (yU.f (k + 1) a0 a1 a2 a3 a4) := by
 intro a0 a1 a2 a3 a4 k
 have ih0 := yU.mono_l k
 unfold yU.f
 repeat' first
   | (with_reducible exact ih0 _ _ _ _ _ _ _ _)
   | (with_reducible exact yM.mono _ _ _ _)
   | (with_reducible exact yJ.mono _ _)
   | (with_reducible exact yT.mono _ _ _ _ _ _ _ _ _ _ _ _)
   | (with_reducible exact LeO.refl _)
   | (with_reducible exact LeO.none _)
   | (with_reducible refine LeO.ite ?_ ?_)
   | (with_reducible refine LeO.bind ?_ (fun _ => ?_))
   | refine LeO.ite ?_ ?_
   | refine LeO.bind ?_ (fun _ => ?_)
def yQ.j0 : Nat → Bool → Bool → Int → Int → Int → Int → List Int → Option (Int × Int × Int × Int)
 | 0, _, _, _, _, _, _, _ => none
 | k + 1, x1, x13, x1558000, x1558001, x1558002, x1558003, x1558004 => if x13 = true then (some (0, 0, 0, 1)) else (if x1 = true then ((yU.f k x1558000 x1558001 x1558002 x1558003 x1558004).bind fun bt1560 => (some (bt1560.1, bt1560.2.1, bt1560.2.2, 0))) else (some (0, 0, 0, 2)))
def yQ.f (k : Nat) (a0_0 : Int) (a0_1 : Int) (a0_2 : Int) (a0_3 : Int) (l0_4 : List Int) (a1 : Bool) : Option (Int × Int × Int × Int) := (xL.f k a0_0 a0_1 a0_2 a0_3 l0_4).bind fun t1559 => (if t1559 = true then (yQ.j0 k a1 (a0_0 != 0) a0_0 a0_1 a0_2 a0_3 l0_4) else (yQ.j0 k a1 true a0_0 a0_1 a0_2 a0_3 l0_4))
theorem yQ.mono_l : ∀ k, (∀ y0 y1 y2 y3 y4 y5 y6, LeO (yQ.j0 k y0 y1 y2 y3 y4 y5 y6) (yQ.j0 (k + 1) y0 y1 y2 y3 y4 y5 y6))
 | 0 => fun _ _ _ _ _ _ _ r h => by simp [yQ.j0] at h
 | k + 1 => by
  have ih0 := yQ.mono_l k
  ·
   intro y0 y1 y2 y3 y4 y5 y6
   unfold yQ.j0
   repeat' first
   | (with_reducible exact ih0 _ _ _ _ _ _ _)
   | (with_reducible exact xL.mono _ _ _ _ _ _)
   | (with_reducible exact yU.mono _ _ _ _ _ _)
   | (with_reducible exact LeO.refl _)
   | (with_reducible exact LeO.none _)
   | (with_reducible refine LeO.ite ?_ ?_)
   | (with_reducible refine LeO.bind ?_ (fun _ => ?_))
   | refine LeO.ite ?_ ?_
   | refine LeO.bind ?_ (fun _ => ?_)
theorem yQ.mono : ∀ a0 a1 a2 a3 a4 a5 k, LeO (yQ.f k a0 a1 a2 a3 a4 a5) (yQ.f (k + 1) a0 a1 a2 a3 a4 a5) := by
 intro a0 a1 a2 a3 a4 a5 k
 have ih0 := yQ.mono_l k
 unfold yQ.f
 repeat' first
   | (with_reducible exact ih0 _ _ _ _ _ _ _)
   | (with_reducible exact xL.mono _ _ _ _ _ _)
   | (with_reducible exact yU.mono _ _ _ _ _ _)
   | (with_reducible exact LeO.refl _)
   | (with_reducible exact LeO.none _)
   | (with_reducible refine LeO.ite ?_ ?_)
   | (with_reducible refine LeO.bind ?_ (fun _ => ?_))
   | refine LeO.ite ?_ ?_
   | refine LeO.bind ?_ (fun _ => ?_)
theorem eqA38 (d : Nat) (w : World) (x0 y0 : Int) (x1 y1 : Int) :
  (Op.equalIn (d + 2) 38 (.agg #[.int .i64 x0, .int .i64 x1]) (.agg #[.int .i64 y0, .int .i64 y1])).run Try.prog w = .ok (x0 == y0 && (x1 == y1)) w := by
 refine eqA_of Try.underlying38 (by kernel_rfl) ?_
 refine eqf_cons (by rfl) (by go_simp; rfl) (by go_simp; rfl) (by go_simp) ?_
 exact eqf_last (by rfl) (by go_simp; rfl) (by go_simp; rfl) (by go_simp)
attribute [local go_sem high] eqA38
def wK.f (a0_0 : Int) (a0_1 : Int) (a0_2 : Int) (a1_0 : Int) (a1_1 : Int) : Option (Bool) := (wG.f a0_0 a0_1 a0_2 a1_0 a1_1).bind fun bt1565 => (some (bt1565.1 == 0 && (bt1565.2 == 0)))
def yP.l0 : Nat → Int → Int → Int → Int → Option (Int)
 | 0, _, _, _, _ => none
 | k + 1, x3, x1568000, x1568001, x1568002 => (wK.f x1568000 x1568001 x1568002 0 x3).bind fun t1568 => (if t1568 = true then (some x3) else (yP.l0 k (wrap64 (x3 + 1)) x1568000 x1568001 x1568002))
def yP.f (k : Nat) (a0_0 : Int) (a0_1 : Int) (a0_2 : Int) : Option (Int) := yP.l0 k 1 a0_0 a0_1 a0_2
theorem yP.mono_l : ∀ k, (∀ y0 y1 y2 y3, LeO (yP.l0 k y0 y1 y2 y3) (yP.l0 (k + 1) y0 y1 y2 y3))
 | 0 => fun _ _ _ _ r h => by simp [yP.l0] at h
 | k + 1 => by
  have ih0 := yP.mono_l k
  ·
   intro y0 y1 y2 y3
   unfold yP.l0
   repeat' first
   | (with_reducible exact ih0 _ _ _ _)
   | (with_reducible exact LeO.refl _)
   | (with_reducible exact LeO.none _)
   | (with_reducible refine LeO.ite ?_ ?_)
   | (with_reducible refine LeO.bind ?_ (fun _ => ?_))
   | refine LeO.ite ?_ ?_
   | refine LeO.bind ?_ (fun _ => ?_)
theorem yP.mono : ∀ a0 a1 a2 k, LeO (yP.f k a0 a1 a2) (yP.f (k + 1) a0 a1 a2) := by
 intro a0 a1 a2 k
 have ih0 := yP.mono_l k
 unfold yP.f
 repeat' first
   | (with_reducible exact ih0 _ _ _ _)
   | (with_reducible exact LeO.refl _)
   | (with_reducible exact LeO.none _)
   | (with_reducible refine LeO.ite ?_ ?_)
   | (with_reducible refine LeO.bind ?_ (fun _ => ?_))
   | refine LeO.ite ?_ ?_
   | refine LeO.bind ?_ (fun _ => ?_)
def yX.l0 : Nat → Int → Int → Int → Int → Int → Int → Option (Int × Bool)
 | 0, _, _, _, _, _, _ => none
 | k + 1, x1, x6, x7, x1680000, x1680001, x1680002 => if x7 < x6 then ((wK.f x1680000 x1680001 x1680002 x1 (wrap64 (-x7))).bind fun t1681 => (if t1681 = true then (some (x7, true)) else (yX.l0 k x1 x6 (wrap64 (x7 + 1)) x1680000 x1680001 x1680002))) else (some (0, false))
def yX.f (k : Nat) (a0_0 : Int) (a0_1 : Int) (a0_2 : Int) (a1 : Int) : Option (Int × Bool) := (yP.f k a0_0 a0_1 a0_2).bind fun t1680 => (yX.l0 k a1 t1680 0 a0_0 a0_1 a0_2)
theorem yX.mono_l : ∀ k, (∀ y0 y1 y2 y3 y4 y5, LeO (yX.l0 k y0 y1 y2 y3 y4 y5) (yX.l0 (k + 1) y0 y1 y2 y3 y4 y5))
 | 0 => fun _ _ _ _ _ _ r h => by simp [yX.l0] at h
 | k + 1 => by
  have ih0 := yX.mono_l k
  ·
   intro y0 y1 y2 y3 y4 y5
   unfold yX.l0
   repeat' first
   | (with_reducible exact ih0 _ _ _ _ _ _)
   | (with_reducible exact yP.mono _ _ _ _)
   | (with_reducible exact LeO.refl _)
   | (with_reducible exact LeO.none _)
   | (with_reducible refine LeO.ite ?_ ?_)
   | (with_reducible refine LeO.bind ?_ (fun _ => ?_))
   | refine LeO.ite ?_ ?_
   | refine LeO.bind ?_ (fun _ => ?_)
theorem yX.mono : ∀ a0 a1 a2 a3 k, LeO (yX.f k a0 a1 a2 a3) (yX.f (k + 1) a0 a1 a2 a3) := by
 intro a0 a1 a2 a3 k
 have ih0 := yX.mono_l k
 unfold yX.f
 repeat' first
   | (with_reducible exact ih0 _ _ _ _ _ _)
   | (with_reducible exact yP.mono _ _ _ _)
   | (with_reducible exact LeO.refl _)
   | (with_reducible exact LeO.none _)
   | (with_reducible refine LeO.ite ?_ ?_)
   | (with_reducible refine LeO.bind ?_ (fun _ => ?_))
   | refine LeO.ite ?_ ?_
   | refine LeO.bind ?_ (fun _ => ?_)
def yS.l0 : Nat → Int → Int → Int → Int → List Int → Int → Option (List Int)
 | 0, _, _, _, _, _, _ => none
 | k + 1, x0, x1, x2, x3, x9, x10 => if x10 < x3 then (if 0 ≤ (wrap64 (x10 - 1)) then (if (wrap64 (x10 - 1)) < (x9.length : Int) then ((xU.f (wrap64 ((wrap64 (x10 * x1)) - (wrap64 ((rd x9 (wrap64 (x10 - 1))) + x2)))) x0).bind fun t1787 => (if x9.length < 17592186044416 then (yS.l0 k x0 x1 x2 x3 (x9 ++ [wrap64 ((wrap64 ((rd x9 (wrap64 (x10 - 1))) + x2)) + t1787)]) (wrap64 (x10 + 1))) else (none))) else (none)) else (none)) else (some x9)
def yS.f (k : Nat) (a0 : Int) (a1 : Int) (a2 : Int) (a3 : Int) : Option (List Int) := yS.l0 k a0 a1 a2 a3 (([0] : List Int)) 1
theorem yS.mono_l : ∀ k, (∀ y0 y1 y2 y3 y4 y5, LeO (yS.l0 k y0 y1 y2 y3 y4 y5) (yS.l0 (k + 1) y0 y1 y2 y3 y4 y5))
 | 0 => fun _ _ _ _ _ _ r h => by simp [yS.l0] at h
 | k + 1 => by
  have ih0 := yS.mono_l k
  ·
   intro y0 y1 y2 y3 y4 y5
   unfold yS.l0
   repeat' first
   | (with_reducible exact ih0 _ _ _ _ _ _)
   | (with_reducible exact LeO.refl _)
   | (with_reducible exact LeO.none _)
   | (with_reducible refine LeO.ite ?_ ?_)
   | (with_reducible refine LeO.bind ?_ (fun _ => ?_))
   | refine LeO.ite ?_ ?_
   | refine LeO.bind ?_ (fun _ => ?_)
theorem yS.mono : ∀ a0 a1 a2 a3 k, LeO (yS.f k a0 a1 a2 a3) (yS.f (k + 1) a0 a1 a2 a3) := by
 intro a0 a1 a2 a3 k
 have ih0 := yS.mono_l k
 unfold yS.f
 repeat' first
   | (with_reducible exact ih0 _ _ _ _ _ _)
   | (with_reducible exact LeO.refl _)
   | (with_reducible exact LeO.none _)
   | (with_reducible refine LeO.ite ?_ ?_)
   | (with_reducible refine LeO.bind ?_ (fun _ => ?_))
   | refine LeO.ite ?_ ?_
   | refine LeO.bind ?_ (fun _ => ?_)
def yN.l0 : Nat → Int → Int → List Int → Int → Option (Int × Int)
 | 0, _, _, _, _ => none
 | k + 1, x2, x3, x14, x15 => if x15 < 100 then (if 0 ≤ x15 then (if x15 < (x14.length : Int) then (if (wrap64 ((rd x14 x15) + x2)) ≤ x3 then (yN.l0 k x2 x3 x14 (wrap64 (x15 + 1))) else (some (x15, 0))) else (none)) else (none)) else (some (x15, 0))
def yN.f (k : Nat) (a0_0 : Int) (a0_1 : Int) (a0_2 : Int) (a0_3 : Int) (l0_4 : List Int) (a1 : Int) (a2 : Int) (a3 : Int) : Option (Int × Int) := (xG.f a1 1 1000).bind fun t1792 => (if t1792 = true then ((xG.f a2 1 1000).bind fun t1793 => (if t1793 = true then ((xG.f a3 0 100000).bind fun t1794 => ((yQ.f k a0_0 a0_1 a0_2 a0_3 l0_4 t1794).bind fun bt1795 => (if bt1795.2.2.2 = 0 then ((yX.f k bt1795.1 bt1795.2.1 bt1795.2.2.1 a1).bind fun bt1800 => (if bt1800.2 = true then ((yP.f k bt1795.1 bt1795.2.1 bt1795.2.2.1).bind fun t1802 => ((yS.f k t1802 bt1800.1 a2 100).bind fun t1803 => (yN.l0 k a2 a3 t1803 0))) else (some (0, 4)))) else (some (0, bt1795.2.2.2))))) else ((yQ.f k a0_0 a0_1 a0_2 a0_3 l0_4 false).bind fun bt1807 => (if bt1807.2.2.2 = 0 then (none) else (some (0, bt1807.2.2.2)))))) else ((yQ.f k a0_0 a0_1 a0_2 a0_3 l0_4 false).bind fun bt1812 => (if bt1812.2.2.2 = 0 then (none) else (some (0, bt1812.2.2.2)))))
theorem yN.mono_l : ∀ k, (∀ y0 y1 y2 y3, LeO (yN.l0 k y0 y1 y2 y3) (yN.l0 (k + 1) y0 y1 y2 y3))
 | 0 => fun _ _ _ _ r h => by simp [yN.l0] at h
 | k + 1 => by
  have ih0 := yN.mono_l k
  ·
   intro y0 y1 y2 y3
   unfold yN.l0
   repeat' first
   | (with_reducible exact ih0 _ _ _ _)
   | (with_reducible exact yQ.mono _ _ _ _ _ _ _)
   | (with_reducible exact yX.mono _ _ _ _ _)
   | (with_reducible exact yP.mono _ _ _ _)
   | (with_reducible exact yS.mono _ _ _ _ _)
   | (with_reducible exact LeO.refl _)
   | (with_reducible exact LeO.none _)
   | (with_reducible refine LeO.ite ?_ ?_)
   | (with_reducible refine LeO.bind ?_ (fun _ => ?_))
   | refine LeO.ite ?_ ?_
   | refine LeO.bind ?_ (fun _ => ?_)
theorem yN.mono : ∀ a0 a1 a2 a3 a4 a5 a6 a7 k, LeO (yN.f k a0 a1 a2 a3 a4 a5 a6 a7) (yN.f (k + 1) a0 a1 a2 a3 a4 a5 a6 a7) := by
 intro a0 a1 a2 a3 a4 a5 a6 a7 k
 have ih0 := yN.mono_l k
 unfold yN.f
 repeat' first
   | (with_reducible exact ih0 _ _ _ _)
   | (with_reducible exact yQ.mono _ _ _ _ _ _ _)
   | (with_reducible exact yX.mono _ _ _ _ _)
   | (with_reducible exact yP.mono _ _ _ _)
   | (with_reducible exact yS.mono _ _ _ _ _)
   | (with_reducible exact LeO.refl _)
   | (with_reducible exact LeO.none _)
   | (with_reducible refine LeO.ite ?_ ?_)
   | (with_reducible refine LeO.bind ?_ (fun _ => ?_))
   | refine LeO.ite ?_ ?_
   | refine LeO.bind ?_ (fun _ => ?_)
def xM.f (a0 : Int) (a1 : Int) (a2 : Int) : Option (Bool) := if a0 ≥ a1 then (some (decide (a0 ≤ a2))) else (some false)
def wA.f (a0 : Int) : Option (Bool) := (xM.f a0 1 1000).bind fun t1640 => (some t1640)
theorem enters_of {P : Program} {f : FuncId} {fn : Func} {c : Code} (hf : P.funcs[f]? = some fn) (hname : (fn.name == "runtime.NumGoroutine") = false) (hb : fn.body = some c) (args : Array Value) (w : World) : (callFunc f args).run P w = .ok (.enter f args) w := by
 have h1 : fn.name ≠ "runtime.NumGoroutine" := by simpa using hname
 simp [callFunc, hf, h1, hb, mark]
/-- where p first holds -/
def fidx {α : Type} (p : α → Bool) (xs : List α) : Int := match xs.findIdx? p with | some i => (i : Int) | none => -1
theorem fidx_hit {α : Type} (p : α → Bool) (xs : List α) (d : α) (k : Nat) (hk : k < xs.length) (h : ∀ j, j < k → p (xs.getD j d) = false) (hp : p (xs.getD k d) = true) : fidx p xs = (k : Int) := by
 have e : xs.findIdx? p = some k := by
  rw [List.findIdx?_eq_some_iff_getElem]
  refine ⟨hk, ?_, fun j hj => ?_⟩
  ·
   simpa [List.getD_eq_getElem?_getD, List.getElem?_eq_getElem hk] using hp
  ·
   have := h j hj
   simpa [List.getD_eq_getElem?_getD, List.getElem?_eq_getElem (show j < xs.length by omega)] using this
 unfold fidx
 rw [e]
theorem fidx_miss {α : Type} (p : α → Bool) (xs : List α) (d : α) (h : ∀ j, j < xs.length → p (xs.getD j d) = false) : fidx p xs = -1 := by
 have e : xs.findIdx? p = none := by
  rw [List.findIdx?_eq_none_iff]
  intro x hx
  obtain ⟨j, hj, rfl⟩ := List.mem_iff_getElem.1 hx
  have := h j hj
  simpa [List.getD_eq_getElem?_getD, List.getElem?_eq_getElem hj] using this
 unfold fidx
 rw [e]
theorem fidx_nonneg {α : Type} (p : α → Bool) (xs : List α) : decide (0 ≤ fidx p xs) = xs.any p := by
 unfold fidx
 cases e : xs.findIdx? p with
 | none =>
  rw [List.findIdx?_eq_none_iff] at e
  have : xs.any p = false := by rw [List.any_eq_false]; intro x hx; simp [e x hx]
  rw [this]
  rfl
 | some i =>
  rw [List.findIdx?_eq_some_iff_getElem] at e
  obtain ⟨h, hp, _⟩ := e
  have : xs.any p = true := List.any_eq_true.2 ⟨xs[i], List.getElem_mem h, hp⟩
  rw [this]
  simp
/-! What a function with rounds comes to, whatever the rounds: its limit. -/
def Mono {α : Type} (g : Nat → Option α) : Prop := ∀ k, LeO (g k) (g (k + 1))
def Lim {α : Type} (g : Nat → Option α) (v : Option α) : Prop := Mono g ∧ ∀ r, v = some r ↔ ∃ k, g k = some r
open Classical in
noncomputable def lim {α : Type} (g : Nat → Option α) : Option α := if h : ∃ k r, g k = some r then g h.choose else none
theorem Mono.le {α : Type} {g : Nat → Option α} (hm : Mono g) {j k : Nat} (h : j ≤ k) {r : α} (hr : g j = some r) : g k = some r := at_rounds hm h hr
theorem lim_Lim {α : Type} {g : Nat → Option α} (hm : Mono g) : Lim g (lim g) := by
 refine ⟨hm, fun r => ?_⟩
 unfold lim
 split
 ·
  rename_i h
  obtain ⟨q, hq⟩ := h.choose_spec
  rw [hq]
  constructor
  ·
   intro e; exact ⟨_, hq.trans e⟩
  ·
   rintro ⟨k, hk⟩
   have h1 := hm.le (Nat.le_max_left h.choose k) hq
   have h2 := hm.le (Nat.le_max_right h.choose k) hk
   rw [← h1, h2]
 ·
  rename_i h
  constructor
  ·
   intro e; cases e
  ·
   rintro ⟨k, hk⟩; exact absurd ⟨k, r, hk⟩ h
theorem Lim.uniq {α : Type} {g : Nat → Option α} {v w : Option α} (h : Lim g v) (h' : Lim g w) : v = w := by
 cases v with
 | some r => exact ((h'.2 r).2 ((h.2 r).1 rfl)).symm
 | none =>
  cases w with
  | none => rfl
  | some r => exact (h.2 r).2 ((h'.2 r).1 rfl)
theorem Lim.const {α : Type} (v : Option α) : Lim (fun _ => v) v := ⟨fun _ => LeO.refl _, fun r => ⟨fun h => ⟨0, h⟩, fun ⟨_, h⟩ => h⟩⟩
theorem Lim.ite {α : Type} {c : Prop} [Decidable c] {g f : Nat → Option α} {v w : Option α} (h : Lim g v) (h' : Lim f w) : Lim (fun k => if c then g k else f k) (if c then v else w) := by
 by_cases hc : c
 ·
  simp only [if_pos hc]; exact h
 ·
  simp only [if_neg hc]; exact h'
theorem Lim.bind {α β : Type} {g : Nat → Option α} {f : Nat → α → Option β} {v : Option α} {w : α → Option β} (h : Lim g v) (h' : ∀ x, Lim (fun k => f k x) (w x)) : Lim (fun k => (g k).bind (f k)) (v.bind w) := by
 refine ⟨fun k => LeO.bind (h.1 k) (fun x => (h' x).1 k), fun r => ?_⟩
 rw [Option.bind_eq_some_iff]
 constructor
 ·
  rintro ⟨x, hx, hr⟩
  obtain ⟨k, hk⟩ := (h.2 x).1 hx
  obtain ⟨j, hj⟩ := ((h' x).2 r).1 hr
  refine ⟨max k j, ?_⟩
  show (g (max k j)).bind (f (max k j)) = some r
  rw [h.1.le (Nat.le_max_left k j) hk]
  exact (h' x).1.le (Nat.le_max_right k j) hj
 ·
  rintro ⟨k, hk⟩
  obtain ⟨x, hx, hr⟩ := Option.bind_eq_some_iff.1 hk
  exact ⟨x, (h.2 x).2 ⟨k, hx⟩, ((h' x).2 r).2 ⟨k, hr⟩⟩
theorem lim_step {α : Type} {g f : Nat → Option α} {v : Option α} (hm : Mono g) (h : ∀ k, g (k + 1) = f k) (hf : Lim f v) : lim g = v := by
 refine (lim_Lim hm).uniq ⟨hm, fun r => ?_⟩
 rw [hf.2 r]
 constructor
 ·
  rintro ⟨k, hk⟩; exact ⟨k + 1, (h k).trans hk⟩
 ·
  rintro ⟨k, hk⟩; exact ⟨k, (h k).symm.trans (hm k r hk)⟩
theorem lim_now {α : Type} {g f : Nat → Option α} {v : Option α} (h : ∀ k, g k = f k) (hf : Lim f v) : lim g = v := by
 have e : g = f := funext h
 subst e
 exact (lim_Lim hf.1).uniq hf
theorem lim_some {α : Type} {g : Nat → Option α} (hm : Mono g) {r : α} (h : lim g = some r) : ∃ k, g k = some r := ((lim_Lim hm).2 r).1 h
def wB.f (l0 : List Int) (a1 : Int) (a2 : Int) : Option (Bool) := some (l0.all fun n => decide (a1 ≤ n) && decide (n ≤ a2))
def xK.f (a0_0 : Int) (a0_1 : Int) (a0_2 : Int) : Option (Int) := some (wrap64 (a0_0 * a0_2))
def wL.f (a0 : Int) : Option (Bool) := (xM.f a0 0 1).bind fun t199 => (some t199)
def wD.f (a0_0 : Int) (a0_1 : Int) (a0_2 : Int) : Option (Bool) := (xM.f a0_0 1 64).bind fun t201 => (if t201 = true then ((xM.f a0_2 1 64).bind fun t202 => (if t202 = true then ((xM.f a0_1 0 (wrap64 (a0_0 - 1))).bind fun t203 => (if t203 = true then ((xK.f a0_0 a0_1 a0_2).bind fun t204 => (some (decide (t204 ≤ 64)))) else (some false))) else (some false))) else (some false))
def xO.f (a0_0 : Int) (a0_1 : Int) (a0_2 : Int) (a0_3 : Int) (l0_4 : List Int) : Option (Bool) := (wL.f a0_0).bind fun t206 => (if t206 = true then ((wD.f a0_1 a0_2 a0_3).bind fun t207 => (if t207 = true then ((xK.f a0_1 a0_2 a0_3).bind fun t208 => (if (l0_4.length : Int) = t208 then ((wB.f l0_4 0 9).bind fun t209 => (some t209)) else (some false))) else (some false))) else (some false))
mutual
def yF.l0 : Nat → List (S38) → Int → Int → Int → Int → Int → Option ((List (S38)))
 | 0, _, _, _, _, _, _ => none
 | k + 1, x3, x8, x9, x211000, x211001, x211002 => if x9 < x8 then (yF.l1 k x3 x9 x8 x9 x211002 0 x211000 x211001 x211002) else (some x3)
def yF.l1 : Nat → List (S38) → Int → Int → Int → Int → Int → Int → Int → Int → Option ((List (S38)))
 | 0, _, _, _, _, _, _, _, _, _ => none
 | k + 1, x3, x4, x8, x9, x13, x14, x211000, x211001, x211002 => if x14 < x13 then (if x3.length < 8796093022208 then (yF.l1 k (x3 ++ [(⟨x4, x14⟩ : S38)]) x4 x8 x9 x13 (wrap64 (x14 + 1)) x211000 x211001 x211002) else (none)) else (yF.l0 k x3 x8 (wrap64 (x9 + 1)) x211000 x211001 x211002)
end
def yF.f (k : Nat) (a0_0 : Int) (a0_1 : Int) (a0_2 : Int) : Option ((List (S38))) := yF.l0 k (([] : List (S38))) a0_0 0 a0_0 a0_1 a0_2
theorem yF.mono_l : ∀ k, (∀ y0 y1 y2 y3 y4 y5, LeO (yF.l0 k y0 y1 y2 y3 y4 y5) (yF.l0 (k + 1) y0 y1 y2 y3 y4 y5)) ∧ (∀ y0 y1 y2 y3 y4 y5 y6 y7 y8, LeO (yF.l1 k y0 y1 y2 y3 y4 y5 y6 y7 y8) (yF.l1 (k + 1) y0 y1 y2 y3 y4 y5 y6 y7 y8))
 | 0 => ⟨fun _ _ _ _ _ _ r h => by simp [yF.l0] at h, fun _ _ _ _ _ _ _ _ _ r h => by simp [yF.l1] at h⟩
 | k + 1 => by
  obtain ⟨ih0, ih1⟩ := yF.mono_l k
  refine ⟨?_, ?_⟩
  ·
   intro y0 y1 y2 y3 y4 y5
   unfold yF.l0
   repeat' first
   | (with_reducible exact ih0 _ _ _ _ _ _)
   | (with_reducible exact ih1 _ _ _ _ _ _ _ _ _)
   | (with_reducible exact LeO.refl _)
   | (with_reducible exact LeO.none _)
   | (with_reducible refine LeO.ite ?_ ?_)
   | (with_reducible refine LeO.bind ?_ (fun _ => ?_))
   | refine LeO.ite ?_ ?_
   | refine LeO.bind ?_ (fun _ => ?_)
  ·
   intro y0 y1 y2 y3 y4 y5 y6 y7 y8
   unfold yF.l1
   repeat' first
   | (with_reducible exact ih0 _ _ _ _ _ _)
   | (with_reducible exact ih1 _ _ _ _ _ _ _ _ _)
   | (with_reducible exact LeO.refl _)
   | (with_reducible exact LeO.none _)
   | (with_reducible refine LeO.ite ?_ ?_)
   | (with_reducible refine LeO.bind ?_ (fun _ => ?_))
   | refine LeO.ite ?_ ?_
   | refine LeO.bind ?_ (fun _ => ?_)
theorem yF.mono : ∀ a0 a1 a2 k, LeO (yF.f k a0 a1 a2) (yF.f (k + 1) a0 a1 a2) := by
 intro a0 a1 a2 k
 obtain ⟨ih0, ih1⟩ := yF.mono_l k
 unfold yF.f
 repeat' first
   | (with_reducible exact ih0 _ _ _ _ _ _)
   | (with_reducible exact ih1 _ _ _ _ _ _ _ _ _)
   | (with_reducible exact LeO.refl _)
   | (with_reducible exact LeO.none _)
   | (with_reducible refine LeO.ite ?_ ?_)
   | (with_reducible refine LeO.bind ?_ (fun _ => ?_))
   | refine LeO.ite ?_ ?_
   | refine LeO.bind ?_ (fun _ => ?_)
def wW.f  : Option (Int × Int × Int × Int) := some (1, 0, 0, 1)
def xP.f (a0_0 : Int) (a0_1 : Int) (a0_2 : Int) : Option (Int × Int × Int × Int) := some (a0_0, 0, a0_1, a0_2)
def xW.f (a0_0 : Int) (a0_1 : Int) (a1_0 : Int) (a1_1 : Int) : Option (Int × Int) := some (wrap64 (a0_0 + a1_0), wrap64 (a0_1 + a1_1))
def wE.f (a0 : Int) (a1 : Int) : Option (Int) := if a1 = 0 then (none) else (some (Int.tmod (wrap64 ((Int.tmod a0 a1) + a1)) a1))
def wF.f (a0_0 : Int) (a0_1 : Int) (a1 : Int) : Option (Int × Int) := some (wrap64 (a1 * a0_0), wrap64 (a1 * a0_1))
def xI.l0 : Nat → Int → Int → Option (Int)
 | 0, _, _ => none
 | k + 1, x0, x1 => if x1 = 0 then (some (mx x0 (wrap64 (-x0)))) else (xI.l0 k x1 (Int.tmod x0 x1))
def xI.f (k : Nat) (a0 : Int) (a1 : Int) : Option (Int) := xI.l0 k a0 a1
theorem xI.mono_l : ∀ k, (∀ y0 y1, LeO (xI.l0 k y0 y1) (xI.l0 (k + 1) y0 y1))
 | 0 => fun _ _ r h => by simp [xI.l0] at h
 | k + 1 => by
  have ih0 := xI.mono_l k
  ·
   intro y0 y1
   unfold xI.l0
   repeat' first
   | (with_reducible exact ih0 _ _)
   | (with_reducible exact LeO.refl _)
   | (with_reducible exact LeO.none _)
   | (with_reducible refine LeO.ite ?_ ?_)
   | (with_reducible refine LeO.bind ?_ (fun _ => ?_))
   | refine LeO.ite ?_ ?_
   | refine LeO.bind ?_ (fun _ => ?_)
theorem xI.mono : ∀ a0 a1 k, LeO (xI.f k a0 a1) (xI.f (k + 1) a0 a1) := by
 intro a0 a1 k
 have ih0 := xI.mono_l k
 unfold xI.f
 repeat' first
   | (with_reducible exact ih0 _ _)
   | (with_reducible exact LeO.refl _)
   | (with_reducible exact LeO.none _)
   | (with_reducible refine LeO.ite ?_ ?_)
   | (with_reducible refine LeO.bind ?_ (fun _ => ?_))
   | refine LeO.ite ?_ ?_
   | refine LeO.bind ?_ (fun _ => ?_)
mutual
def yI.l0 : Nat → Int → List (S38) → Int → Int → Int → Int → Option (Int × Int × Int)
 | 0, _, _, _, _, _, _ => none
 | k + 1, x3, x9, x10, x11, x453000, x453001 => if x11 < x10 then (if 0 ≤ x11 then (if x11 < (x9.length : Int) then (yI.l1 k x3 x9 x10 x11 x453000 x453001 ((rd_T38 x9 x11).f0) ((rd_T38 x9 x11).f1)) else (none)) else (none)) else (if x453001 < 0 then ((wF.f x453000 x453001 (-1)).bind fun bt460 => ((wE.f bt460.1 x3).bind fun t462 => (some (x3, t462, bt460.2)))) else ((wE.f x453000 x3).bind fun t463 => (some (x3, t463, x453001))))
def yI.l1 : Nat → Int → List (S38) → Int → Int → Int → Int → Int → Int → Option (Int × Int × Int)
 | 0, _, _, _, _, _, _, _, _ => none
 | k + 1, x3, x9, x10, x11, x453000, x453001, x455000, x455001 => if x455001 = 0 then ((xI.f k x3 x455000).bind fun t455 => (yI.l0 k t455 x9 x10 (wrap64 (x11 + 1)) x453000 x453001)) else ((wF.f x455000 x455001 (wrap64 (-(wrap64 (Int.tdiv x453001 x455001))))).bind fun bt456 => ((xW.f x453000 x453001 bt456.1 bt456.2).bind fun bt458 => (yI.l1 k x3 x9 x10 x11 x455000 x455001 bt458.1 bt458.2)))
end
def yI.f (k : Nat) (l0 : List (S38)) : Option (Int × Int × Int) := yI.l0 k 0 l0 (l0.length : Int) 0 0 0
theorem yI.mono_l : ∀ k, (∀ y0 y1 y2 y3 y4 y5, LeO (yI.l0 k y0 y1 y2 y3 y4 y5) (yI.l0 (k + 1) y0 y1 y2 y3 y4 y5)) ∧ (∀ y0 y1 y2 y3 y4 y5 y6 y7, LeO (yI.l1 k y0 y1 y2 y3 y4 y5 y6 y7) (yI.l1 (k + 1) y0 y1 y2 y3 y4 y5 y6 y7))
 | 0 => ⟨fun _ _ _ _ _ _ r h => by simp [yI.l0] at h, fun _ _ _ _ _ _ _ _ r h => by simp [yI.l1] at h⟩
 | k + 1 => by
  obtain ⟨ih0, ih1⟩ := yI.mono_l k
  refine ⟨?_, ?_⟩
  ·
   intro y0 y1 y2 y3 y4 y5
   unfold yI.l0
   repeat' first
   | (with_reducible exact ih0 _ _ _ _ _ _)
   | (with_reducible exact ih1 _ _ _ _ _ _ _ _)
   | (with_reducible exact xI.mono _ _ _)
   | (with_reducible exact LeO.refl _)
   | (with_reducible exact LeO.none _)
   | (with_reducible refine LeO.ite ?_ ?_)
   | (with_reducible refine LeO.bind ?_ (fun _ => ?_))
   | refine LeO.ite ?_ ?_
   | refine LeO.bind ?_ (fun _ => ?_)
  ·
   intro y0 y1 y2 y3 y4 y5 y6 y7
   unfold yI.l1
   repeat' first
   | (with_reducible exact ih0 _ _ _ _ _ _)
   | (with_reducible exact ih1 _ _ _ _ _ _ _ _)
   | (with_reducible exact xI.mono _ _ _)
   | (with_reducible exact LeO.refl _)
   | (with_reducible exact LeO.none _)
   | (with_reducible refine LeO.ite ?_ ?_)
   | (with_reducible refine LeO.bind ?_ (fun _ => ?_))
   | refine LeO.ite ?_ ?_
   | refine LeO.bind ?_ (fun _ => ?_)
theorem yI.mono : ∀ a0 k, LeO (yI.f k a0) (yI.f (k + 1) a0) := by
 intro a0 k
 obtain ⟨ih0, ih1⟩ := yI.mono_l k
 unfold yI.f
 repeat' first
   | (with_reducible exact ih0 _ _ _ _ _ _)
   | (with_reducible exact ih1 _ _ _ _ _ _ _ _)
   | (with_reducible exact xI.mono _ _ _)
   | (with_reducible exact LeO.refl _)
   | (with_reducible exact LeO.none _)
   | (with_reducible refine LeO.ite ?_ ?_)
   | (with_reducible refine LeO.bind ?_ (fun _ => ?_))
   | refine LeO.ite ?_ ?_
   | refine LeO.bind ?_ (fun _ => ?_)
def xZ.f (a0_0 : Int) (a0_1 : Int) (a0_2 : Int) (a1_0 : Int) (a1_1 : Int) : Option (Int) := some (wrap64 ((wrap64 (a1_0 * a0_2)) + a1_1))
def xN.f (a0_0 : Int) (a0_1 : Int) (a0_2 : Int) (a1_0 : Int) (a1_1 : Int) : Option (Int × Int) := (wE.f a1_1 a0_2).bind fun t237 => (if a0_2 = 0 then (none) else ((wE.f (wrap64 (a1_0 - (wrap64 ((wrap64 (Int.tdiv (wrap64 (a1_1 - t237)) a0_2)) * a0_1)))) a0_0).bind fun t238 => (some (t238, t237))))
def xT.f (a0_0 : Int) (a0_1 : Int) (a0_2 : Int) (a0_3 : Int) (l0_4 : List Int) (a1_0 : Int) (a1_1 : Int) : Option (Int) := (xN.f a0_1 a0_2 a0_3 a1_0 a1_1).bind fun bt241 => ((xZ.f a0_1 a0_2 a0_3 bt241.1 bt241.2).bind fun t243 => (if 0 ≤ t243 then (if t243 < (l0_4.length : Int) then (some (rd l0_4 t243)) else (none)) else (none)))
def wR.f (a0_0 : Int) (a0_1 : Int) (a0_2 : Int) (a0_3 : Int) (a1_0 : Int) (a1_1 : Int) : Option (Int × Int) := some (wrap64 ((wrap64 (a0_0 * a1_0)) + (wrap64 (a0_1 * a1_1))), wrap64 ((wrap64 (a0_2 * a1_0)) + (wrap64 (a0_3 * a1_1))))
def xQ.f (a0_0 : Int) (a0_1 : Int) (a0_2 : Int) (a0_3 : Int) (a0_4 : Int) (a0_5 : Int) (a1_0 : Int) (a1_1 : Int) : Option (Int × Int) := (wR.f a0_0 a0_1 a0_2 a0_3 a1_0 a1_1).bind fun bt485 => ((xW.f bt485.1 bt485.2 a0_4 a0_5).bind fun bt487 => (some (bt487.1, bt487.2)))
def yL.l0 : Nat → List (S38) → Int → Int → Int → Int → Int → Int → List Int → Int → Int → Int → Int → Int → Int → Option (Bool)
 | 0, _, _, _, _, _, _, _, _, _, _, _, _, _, _ => none
 | k + 1, x9, x10, x11, x1424000, x1424001, x1424002, x1424003, x1424004, x1425000, x1425001, x1425002, x1425003, x1425004, x1425005 => if x11 < x10 then (if 0 ≤ x11 then (if x11 < (x9.length : Int) then ((xQ.f x1425000 x1425001 x1425002 x1425003 x1425004 x1425005 ((rd_T38 x9 x11).f0) ((rd_T38 x9 x11).f1)).bind fun bt1430 => ((xT.f x1424000 x1424001 x1424002 x1424003 x1424004 bt1430.1 bt1430.2).bind fun t1432 => (if x11 < (x1424004.length : Int) then (if t1432 = (rd x1424004 x11) then (yL.l0 k x9 x10 (wrap64 (x11 + 1)) x1424000 x1424001 x1424002 x1424003 x1424004 x1425000 x1425001 x1425002 x1425003 x1425004 x1425005) else (some false)) else (none)))) else (none)) else (none)) else (some true)
def yL.f (k : Nat) (a0_0 : Int) (a0_1 : Int) (a0_2 : Int) (a0_3 : Int) (l0_4 : List Int) (a1_0 : Int) (a1_1 : Int) (a1_2 : Int) (a1_3 : Int) (a1_4 : Int) (a1_5 : Int) : Option (Bool) := (yF.f k a0_1 a0_2 a0_3).bind fun t1425 => (yL.l0 k t1425 (t1425.length : Int) 0 a0_0 a0_1 a0_2 a0_3 l0_4 a1_0 a1_1 a1_2 a1_3 a1_4 a1_5)
theorem yL.mono_l : ∀ k, (∀ y0 y1 y2 y3 y4 y5 y6 y7 y8 y9 y10 y11 y12 y13, LeO (yL.l0 k y0 y1 y2 y3 y4 y5 y6 y7 y8 y9 y10 y11 y12 y13) (yL.l0 (k + 1) y0 y1 y2 y3 y4 y5 y6 y7 y8 y9 y10 y11 y12 y13))
 | 0 => fun _ _ _ _ _ _ _ _ _ _ _ _ _ _ r h => by simp [yL.l0] at h
 | k + 1 => by
  have ih0 := yL.mono_l k
  ·
   intro y0 y1 y2 y3 y4 y5 y6 y7 y8 y9 y10 y11 y12 y13
   unfold yL.l0
   repeat' first
   | (with_reducible exact ih0 _ _ _ _ _ _ _ _ _ _ _ _ _ _)
   | (with_reducible exact yF.mono _ _ _ _)
   | (with_reducible exact LeO.refl _)
   | (with_reducible exact LeO.none _)
   | (with_reducible refine LeO.ite ?_ ?_)
   | (with_reducible refine LeO.bind ?_ (fun _ => ?_))
   | refine LeO.ite ?_ ?_
   | refine LeO.bind ?_ (fun _ => ?_)
theorem yL.mono : ∀ a0 a1 a2 a3 a4 a5 a6 a7 a8 a9 a10 k, LeO (yL.f k a0 a1 a2 a3 a4 a5 a6 a7 a8 a9 a10) (yL.f (k + 1) a0 a1 a2 a3 a4 a5 a6 a7 a8 a9 a10) := by
 intro a0 a1 a2 a3 a4 a5 a6 a7 a8 a9 a10 k
 have ih0 := yL.mono_l k
 unfold yL.f
 repeat' first
   | (with_reducible exact ih0 _ _ _ _ _ _ _ _ _ _ _ _ _ _)
   | (with_reducible exact yF.mono _ _ _ _)
   | (with_reducible exact LeO.refl _)
   | (with_reducible exact LeO.none _)
   | (with_reducible refine LeO.ite ?_ ?_)
   | (with_reducible refine LeO.bind ?_ (fun _ => ?_))
   | refine LeO.ite ?_ ?_
   | refine LeO.bind ?_ (fun _ => ?_)
def yG.l0 : Nat → List (S38) → List (S38) → Int → Int → Int → Int → Int → Int → List Int → Option (Int × Int × Int)
 | 0, _, _, _, _, _, _, _, _, _ => none
 | k + 1, x5, x19, x20, x21, x1435000, x1435001, x1435002, x1435003, x1435004 => if x21 < x20 then (if 0 ≤ x21 then (if x21 < (x19.length : Int) then ((wW.f).bind fun bt1453 => ((yL.f k x1435000 x1435001 x1435002 x1435003 x1435004 bt1453.1 bt1453.2.1 bt1453.2.2.1 bt1453.2.2.2 ((rd_T38 x19 x21).f0) ((rd_T38 x19 x21).f1)).bind fun t1457 => (if t1457 = true then (if x5.length < 8796093022208 then (yG.l0 k (x5 ++ [(⟨(rd_T38 x19 x21).f0, (rd_T38 x19 x21).f1⟩ : S38)]) x19 x20 (wrap64 (x21 + 1)) x1435000 x1435001 x1435002 x1435003 x1435004) else (none)) else (yG.l0 k x5 x19 x20 (wrap64 (x21 + 1)) x1435000 x1435001 x1435002 x1435003 x1435004)))) else (none)) else (none)) else ((yI.f k x5).bind fun bt1448 => (some (bt1448.1, bt1448.2.1, bt1448.2.2)))
def yG.f (k : Nat) (a0_0 : Int) (a0_1 : Int) (a0_2 : Int) (a0_3 : Int) (l0_4 : List Int) : Option (Int × Int × Int) := (xP.f a0_1 a0_2 a0_3).bind fun bt1436 => ((yF.f k a0_1 a0_2 a0_3).bind fun t1445 => (yG.l0 k (([(⟨bt1436.1, bt1436.2.1⟩ : S38), (⟨bt1436.2.2.1, bt1436.2.2.2⟩ : S38)] : List (S38))) t1445 (t1445.length : Int) 0 a0_0 a0_1 a0_2 a0_3 l0_4))
theorem yG.mono_l : ∀ k, (∀ y0 y1 y2 y3 y4 y5 y6 y7 y8, LeO (yG.l0 k y0 y1 y2 y3 y4 y5 y6 y7 y8) (yG.l0 (k + 1) y0 y1 y2 y3 y4 y5 y6 y7 y8))
 | 0 => fun _ _ _ _ _ _ _ _ _ r h => by simp [yG.l0] at h
 | k + 1 => by
  have ih0 := yG.mono_l k
  ·
   intro y0 y1 y2 y3 y4 y5 y6 y7 y8
   unfold yG.l0
   repeat' first
   | (with_reducible exact ih0 _ _ _ _ _ _ _ _ _)
   | (with_reducible exact yF.mono _ _ _ _)
   | (with_reducible exact yL.mono _ _ _ _ _ _ _ _ _ _ _ _)
   | (with_reducible exact yI.mono _ _)
   | (with_reducible exact LeO.refl _)
   | (with_reducible exact LeO.none _)
   | (with_reducible refine LeO.ite ?_ ?_)
   | (with_reducible refine LeO.bind ?_ (fun _ => ?_))
   | refine LeO.ite ?_ ?_
   | refine LeO.bind ?_ (fun _ => ?_)
theorem yG.mono : ∀ a0 a1 a2 a3 a4 k, LeO (yG.f k a0 a1 a2 a3 a4) (yG.f (k + 1) a0 a1 a2 a3 a4) := by
 intro a0 a1 a2 a3 a4 k
 have ih0 := yG.mono_l k
 unfold yG.f
 repeat' first
   | (with_reducible exact ih0 _ _ _ _ _ _ _ _ _)
   | (with_reducible exact yF.mono _ _ _ _)
   | (with_reducible exact yL.mono _ _ _ _ _ _ _ _ _ _ _ _)
   | (with_reducible exact yI.mono _ _)
   | (with_reducible exact LeO.refl _)
   | (with_reducible exact LeO.none _)
   | (with_reducible refine LeO.ite ?_ ?_)
   | (with_reducible refine LeO.bind ?_ (fun _ => ?_))
   | refine LeO.ite ?_ ?_
   | refine LeO.bind ?_ (fun _ => ?_)
def xH.f (k : Nat) (a0_0 : Int) (a0_1 : Int) (a0_2 : Int) (a0_3 : Int) (l0_4 : List Int) : Option (Int × Int × Int × Int) := (xO.f a0_0 a0_1 a0_2 a0_3 l0_4).bind fun t1578 => (if t1578 = true then (if a0_0 = 0 then ((yG.f k a0_0 a0_1 a0_2 a0_3 l0_4).bind fun bt1579 => (some (bt1579.1, bt1579.2.1, bt1579.2.2, 0))) else (some (0, 0, 0, 1))) else (some (0, 0, 0, 1)))
theorem xH.mono : ∀ a0 a1 a2 a3 a4 k, LeO (xH.f k a0 a1 a2 a3 a4) (xH.f (k + 1) a0 a1 a2 a3 a4) := by
 intro a0 a1 a2 a3 a4 k
 unfold xH.f
 repeat' first
   | (with_reducible exact yG.mono _ _ _ _ _ _)
   | (with_reducible exact LeO.refl _)
   | (with_reducible exact LeO.none _)
   | (with_reducible refine LeO.ite ?_ ?_)
   | (with_reducible refine LeO.bind ?_ (fun _ => ?_))
   | refine LeO.ite ?_ ?_
   | refine LeO.bind ?_ (fun _ => ?_)
attribute [local go_sem high] eqA38
def xY.f (a0_0 : Int) (a0_1 : Int) (a0_2 : Int) (a1_0 : Int) (a1_1 : Int) : Option (Bool) := (xN.f a0_0 a0_1 a0_2 a1_0 a1_1).bind fun bt1584 => (some (bt1584.1 == 0 && (bt1584.2 == 0)))
def yK.l0 : Nat → Int → Int → Int → Int → Int → Int → Int → Option (Int × Int)
 | 0, _, _, _, _, _, _, _ => none
 | k + 1, x1587000, x1587001, x1587002, x1588000, x1588001, x1590000, x1590001 => (xY.f x1587000 x1587001 x1587002 x1590000 x1590001).bind fun t1590 => (if t1590 = true then (some (x1590000, x1590001)) else ((xW.f x1590000 x1590001 x1588000 x1588001).bind fun bt1591 => (yK.l0 k x1587000 x1587001 x1587002 x1588000 x1588001 bt1591.1 bt1591.2)))
def yK.f (k : Nat) (a0_0 : Int) (a0_1 : Int) (a0_2 : Int) (a1_0 : Int) (a1_1 : Int) : Option (Int × Int) := yK.l0 k a0_0 a0_1 a0_2 a1_0 a1_1 a1_0 a1_1
theorem yK.mono_l : ∀ k, (∀ y0 y1 y2 y3 y4 y5 y6, LeO (yK.l0 k y0 y1 y2 y3 y4 y5 y6) (yK.l0 (k + 1) y0 y1 y2 y3 y4 y5 y6))
 | 0 => fun _ _ _ _ _ _ _ r h => by simp [yK.l0] at h
 | k + 1 => by
  have ih0 := yK.mono_l k
  ·
   intro y0 y1 y2 y3 y4 y5 y6
   unfold yK.l0
   repeat' first
   | (with_reducible exact ih0 _ _ _ _ _ _ _)
   | (with_reducible exact LeO.refl _)
   | (with_reducible exact LeO.none _)
   | (with_reducible refine LeO.ite ?_ ?_)
   | (with_reducible refine LeO.bind ?_ (fun _ => ?_))
   | refine LeO.ite ?_ ?_
   | refine LeO.bind ?_ (fun _ => ?_)
theorem yK.mono : ∀ a0 a1 a2 a3 a4 k, LeO (yK.f k a0 a1 a2 a3 a4) (yK.f (k + 1) a0 a1 a2 a3 a4) := by
 intro a0 a1 a2 a3 a4 k
 have ih0 := yK.mono_l k
 unfold yK.f
 repeat' first
   | (with_reducible exact ih0 _ _ _ _ _ _ _)
   | (with_reducible exact LeO.refl _)
   | (with_reducible exact LeO.none _)
   | (with_reducible refine LeO.ite ?_ ?_)
   | (with_reducible refine LeO.bind ?_ (fun _ => ?_))
   | refine LeO.ite ?_ ?_
   | refine LeO.bind ?_ (fun _ => ?_)
def xC.f (k : Nat) (a0_0 : Int) (a0_1 : Int) (a0_2 : Int) : Option (Int) := (yK.f k a0_0 a0_1 a0_2 0 1).bind fun bt1594 => (some bt1594.2)
theorem xC.mono : ∀ a0 a1 a2 k, LeO (xC.f k a0 a1 a2) (xC.f (k + 1) a0 a1 a2) := by
 intro a0 a1 a2 k
 unfold xC.f
 repeat' first
   | (with_reducible exact yK.mono _ _ _ _ _ _)
   | (with_reducible exact LeO.refl _)
   | (with_reducible exact LeO.none _)
   | (with_reducible refine LeO.ite ?_ ?_)
   | (with_reducible refine LeO.bind ?_ (fun _ => ?_))
   | refine LeO.ite ?_ ?_
   | refine LeO.bind ?_ (fun _ => ?_)
def yO.l0 : Nat → Int → Int → Int → Int → Int → Int → Option (Int)
 | 0, _, _, _, _, _, _ => none
 | k + 1, x1, x7, x8, x1691000, x1691001, x1691002 => if x8 < x7 then ((xY.f x1691000 x1691001 x1691002 x1 (wrap64 (-x8))).bind fun t1692 => (if t1692 = true then (some x8) else (yO.l0 k x1 x7 (wrap64 (x8 + 1)) x1691000 x1691001 x1691002))) else (some (-1))
def yO.f (k : Nat) (a0_0 : Int) (a0_1 : Int) (a0_2 : Int) (a1 : Int) : Option (Int) := (xC.f k a0_0 a0_1 a0_2).bind fun t1691 => (yO.l0 k a1 t1691 0 a0_0 a0_1 a0_2)
theorem yO.mono_l : ∀ k, (∀ y0 y1 y2 y3 y4 y5, LeO (yO.l0 k y0 y1 y2 y3 y4 y5) (yO.l0 (k + 1) y0 y1 y2 y3 y4 y5))
 | 0 => fun _ _ _ _ _ _ r h => by simp [yO.l0] at h
 | k + 1 => by
  have ih0 := yO.mono_l k
  ·
   intro y0 y1 y2 y3 y4 y5
   unfold yO.l0
   repeat' first
   | (with_reducible exact ih0 _ _ _ _ _ _)
   | (with_reducible exact xC.mono _ _ _ _)
   | (with_reducible exact LeO.refl _)
   | (with_reducible exact LeO.none _)
   | (with_reducible refine LeO.ite ?_ ?_)
   | (with_reducible refine LeO.bind ?_ (fun _ => ?_))
   | refine LeO.ite ?_ ?_
   | refine LeO.bind ?_ (fun _ => ?_)
theorem yO.mono : ∀ a0 a1 a2 a3 k, LeO (yO.f k a0 a1 a2 a3) (yO.f (k + 1) a0 a1 a2 a3) := by
 intro a0 a1 a2 a3 k
 have ih0 := yO.mono_l k
 unfold yO.f
 repeat' first
   | (with_reducible exact ih0 _ _ _ _ _ _)
   | (with_reducible exact xC.mono _ _ _ _)
   | (with_reducible exact LeO.refl _)
   | (with_reducible exact LeO.none _)
   | (with_reducible refine LeO.ite ?_ ?_)
   | (with_reducible refine LeO.bind ?_ (fun _ => ?_))
   | refine LeO.ite ?_ ?_
   | refine LeO.bind ?_ (fun _ => ?_)
def yW.j0 : Nat → Int → Bool → Int → Int → Int → Option (Int × Int × Int)
 | 0, _, _, _, _, _ => none
 | k + 1, x1, x26, x1747000, x1747001, x1747002 => if x26 = true then (some (0, 0, 2)) else ((yO.f k x1747000 x1747001 x1747002 x1).bind fun t1748 => (if t1748 < 0 then (some (0, 0, 4)) else ((xC.f k x1747000 x1747001 x1747002).bind fun t1749 => (some (t1749, t1748, 0)))))
def yW.f (k : Nat) (a0_0 : Int) (a0_1 : Int) (a0_2 : Int) (a0_3 : Int) (l0_4 : List Int) (a1 : Int) (a2 : Bool) : Option (Int × Int × Int) := (xH.f k a0_0 a0_1 a0_2 a0_3 l0_4).bind fun bt1742 => (if bt1742.2.2.2 = 0 then ((wA.f a1).bind fun t1747 => (if t1747 = true then (yW.j0 k a1 (!a2) bt1742.1 bt1742.2.1 bt1742.2.2.1) else (yW.j0 k a1 true bt1742.1 bt1742.2.1 bt1742.2.2.1))) else (some (0, 0, bt1742.2.2.2)))
theorem yW.mono_l : ∀ k, (∀ y0 y1 y2 y3 y4, LeO (yW.j0 k y0 y1 y2 y3 y4) (yW.j0 (k + 1) y0 y1 y2 y3 y4))
 | 0 => fun _ _ _ _ _ r h => by simp [yW.j0] at h
 | k + 1 => by
  have ih0 := yW.mono_l k
  ·
   intro y0 y1 y2 y3 y4
   unfold yW.j0
   repeat' first
   | (with_reducible exact ih0 _ _ _ _ _)
   | (with_reducible exact yO.mono _ _ _ _ _)
   | (with_reducible exact xC.mono _ _ _ _)
   | (with_reducible exact xH.mono _ _ _ _ _ _)
   | (with_reducible exact LeO.refl _)
   | (with_reducible exact LeO.none _)
   | (with_reducible refine LeO.ite ?_ ?_)
   | (with_reducible refine LeO.bind ?_ (fun _ => ?_))
   | refine LeO.ite ?_ ?_
   | refine LeO.bind ?_ (fun _ => ?_)
theorem yW.mono : ∀ a0 a1 a2 a3 a4 a5 a6 k, LeO (yW.f k a0 a1 a2 a3 a4 a5 a6) (yW.f (k + 1) a0 a1 a2 a3 a4 a5 a6) := by
 intro a0 a1 a2 a3 a4 a5 a6 k
 have ih0 := yW.mono_l k
 unfold yW.f
 repeat' first
   | (with_reducible exact ih0 _ _ _ _ _)
   | (with_reducible exact yO.mono _ _ _ _ _)
   | (with_reducible exact xC.mono _ _ _ _)
   | (with_reducible exact xH.mono _ _ _ _ _ _)
   | (with_reducible exact LeO.refl _)
   | (with_reducible exact LeO.none _)
   | (with_reducible refine LeO.ite ?_ ?_)
   | (with_reducible refine LeO.bind ?_ (fun _ => ?_))
   | refine LeO.ite ?_ ?_
   | refine LeO.bind ?_ (fun _ => ?_)
def yR.l0 : Nat → Int → Int → Int → Int → List Int → Int → Option (List Int)
 | 0, _, _, _, _, _, _ => none
 | k + 1, x0, x1, x2, x3, x9, x10 => if x10 < x3 then (if 0 ≤ (wrap64 (x10 - 1)) then (if (wrap64 (x10 - 1)) < (x9.length : Int) then ((wE.f (wrap64 ((wrap64 (x10 * x1)) - (wrap64 ((rd x9 (wrap64 (x10 - 1))) + x2)))) x0).bind fun t1821 => (if x9.length < 17592186044416 then (yR.l0 k x0 x1 x2 x3 (x9 ++ [wrap64 ((wrap64 ((rd x9 (wrap64 (x10 - 1))) + x2)) + t1821)]) (wrap64 (x10 + 1))) else (none))) else (none)) else (none)) else (some x9)
def yR.f (k : Nat) (a0 : Int) (a1 : Int) (a2 : Int) (a3 : Int) : Option (List Int) := yR.l0 k a0 a1 a2 a3 (([0] : List Int)) 1
theorem yR.mono_l : ∀ k, (∀ y0 y1 y2 y3 y4 y5, LeO (yR.l0 k y0 y1 y2 y3 y4 y5) (yR.l0 (k + 1) y0 y1 y2 y3 y4 y5))
 | 0 => fun _ _ _ _ _ _ r h => by simp [yR.l0] at h
 | k + 1 => by
  have ih0 := yR.mono_l k
  ·
   intro y0 y1 y2 y3 y4 y5
   unfold yR.l0
   repeat' first
   | (with_reducible exact ih0 _ _ _ _ _ _)
   | (with_reducible exact LeO.refl _)
   | (with_reducible exact LeO.none _)
   | (with_reducible refine LeO.ite ?_ ?_)
   | (with_reducible refine LeO.bind ?_ (fun _ => ?_))
   | refine LeO.ite ?_ ?_
   | refine LeO.bind ?_ (fun _ => ?_)
theorem yR.mono : ∀ a0 a1 a2 a3 k, LeO (yR.f k a0 a1 a2 a3) (yR.f (k + 1) a0 a1 a2 a3) := by
 intro a0 a1 a2 a3 k
 have ih0 := yR.mono_l k
 unfold yR.f
 repeat' first
   | (with_reducible exact ih0 _ _ _ _ _ _)
   | (with_reducible exact LeO.refl _)
   | (with_reducible exact LeO.none _)
   | (with_reducible refine LeO.ite ?_ ?_)
   | (with_reducible refine LeO.bind ?_ (fun _ => ?_))
   | refine LeO.ite ?_ ?_
   | refine LeO.bind ?_ (fun _ => ?_)
mutual
def yH.j0 : Nat → Int → Int → Int → Int → Int → Option (Int × Int)
 | 0, _, _, _, _, _ => none
 | k + 1, x2, x3, x10, x11, x12 => if x12 = 0 then ((yR.f k x10 x11 x2 100).bind fun t1834 => (yH.l0 k x2 x3 0 t1834 (t1834.length : Int) 0)) else (some (0, x12))
def yH.l0 : Nat → Int → Int → Int → List Int → Int → Int → Option (Int × Int)
 | 0, _, _, _, _, _, _ => none
 | k + 1, x2, x3, x13, x35, x36, x37 => if x37 < x36 then (if 0 ≤ x37 then (if x37 < (x35.length : Int) then (if (wrap64 ((rd x35 x37) + x2)) ≤ x3 then (yH.l0 k x2 x3 (wrap64 (x13 + 1)) x35 x36 (wrap64 (x37 + 1))) else (yH.l0 k x2 x3 x13 x35 x36 (wrap64 (x37 + 1)))) else (none)) else (none)) else (some (x13, 0))
end
def yH.f (k : Nat) (a0_0 : Int) (a0_1 : Int) (a0_2 : Int) (a0_3 : Int) (l0_4 : List Int) (a1 : Int) (a2 : Int) (a3 : Int) : Option (Int × Int) := (wA.f a2).bind fun t1826 => (if t1826 = true then ((xM.f a3 0 100000).bind fun t1827 => ((yW.f k a0_0 a0_1 a0_2 a0_3 l0_4 a1 t1827).bind fun bt1828 => (yH.j0 k a2 a3 bt1828.1 bt1828.2.1 bt1828.2.2))) else ((yW.f k a0_0 a0_1 a0_2 a0_3 l0_4 a1 false).bind fun bt1831 => (yH.j0 k a2 a3 bt1831.1 bt1831.2.1 bt1831.2.2)))
theorem yH.mono_l : ∀ k, (∀ y0 y1 y2 y3 y4, LeO (yH.j0 k y0 y1 y2 y3 y4) (yH.j0 (k + 1) y0 y1 y2 y3 y4)) ∧ (∀ y0 y1 y2 y3 y4 y5, LeO (yH.l0 k y0 y1 y2 y3 y4 y5) (yH.l0 (k + 1) y0 y1 y2 y3 y4 y5))
 | 0 => ⟨fun _ _ _ _ _ r h => by simp [yH.j0] at h, fun _ _ _ _ _ _ r h => by simp [yH.l0] at h⟩
 | k + 1 => by
  obtain ⟨ih0, ih1⟩ := yH.mono_l k
  refine ⟨?_, ?_⟩
  ·
   intro y0 y1 y2 y3 y4
   unfold yH.j0
   repeat' first
   | (with_reducible exact ih0 _ _ _ _ _)
   | (with_reducible exact ih1 _ _ _ _ _ _)
   | (with_reducible exact yR.mono _ _ _ _ _)
   | (with_reducible exact yW.mono _ _ _ _ _ _ _ _)
   | (with_reducible exact LeO.refl _)
   | (with_reducible exact LeO.none _)
   | (with_reducible refine LeO.ite ?_ ?_)
   | (with_reducible refine LeO.bind ?_ (fun _ => ?_))
   | refine LeO.ite ?_ ?_
   | refine LeO.bind ?_ (fun _ => ?_)
  ·
   intro y0 y1 y2 y3 y4 y5
   unfold yH.l0
   repeat' first
   | (with_reducible exact ih0 _ _ _ _ _)
   | (with_reducible exact ih1 _ _ _ _ _ _)
   | (with_reducible exact yR.mono _ _ _ _ _)
   | (with_reducible exact yW.mono _ _ _ _ _ _ _ _)
   | (with_reducible exact LeO.refl _)
   | (with_reducible exact LeO.none _)
   | (with_reducible refine LeO.ite ?_ ?_)
   | (with_reducible refine LeO.bind ?_ (fun _ => ?_))
   | refine LeO.ite ?_ ?_
   | refine LeO.bind ?_ (fun _ => ?_)
theorem yH.mono : ∀ a0 a1 a2 a3 a4 a5 a6 a7 k, LeO (yH.f k a0 a1 a2 a3 a4 a5 a6 a7) (yH.f (k + 1) a0 a1 a2 a3 a4 a5 a6 a7) := by
 intro a0 a1 a2 a3 a4 a5 a6 a7 k
 obtain ⟨ih0, ih1⟩ := yH.mono_l k
 unfold yH.f
 repeat' first
   | (with_reducible exact ih0 _ _ _ _ _)
   | (with_reducible exact ih1 _ _ _ _ _ _)
   | (with_reducible exact yR.mono _ _ _ _ _)
   | (with_reducible exact yW.mono _ _ _ _ _ _ _ _)
   | (with_reducible exact LeO.refl _)
   | (with_reducible exact LeO.none _)
   | (with_reducible refine LeO.ite ?_ ?_)
   | (with_reducible refine LeO.bind ?_ (fun _ => ?_))
   | refine LeO.ite ?_ ?_
   | refine LeO.bind ?_ (fun _ => ?_)
def xE.f (k : Nat) (a0_0 : Int) (a0_1 : Int) (a0_2 : Int) (a0_3 : Int) (l0_4 : List Int) (a1 : Int) (a2 : Int) (a3 : Int) : Option (Bool) := (wJ.f a0_0 a0_1 a0_2 a0_3 l0_4 1048576).bind fun t1839 => (if t1839 < 0 then (some true) else ((xF.f k a0_0 a0_1 a0_2 a0_3 l0_4).bind fun bt1840 => ((yN.f k bt1840.1 bt1840.2.1 bt1840.2.2.1 bt1840.2.2.2.1 bt1840.2.2.2.2 a1 a2 a3).bind fun bt1847 => ((xF.f k a0_0 a0_1 a0_2 a0_3 l0_4).bind fun bt1849 => ((yH.f k bt1849.1 bt1849.2.1 bt1849.2.2.1 bt1849.2.2.2.1 bt1849.2.2.2.2 a1 a2 a3).bind fun bt1857 => (if bt1857.1 = bt1847.1 then (if bt1857.2 = bt1847.2 then ((xF.f k a0_0 a0_1 a0_2 a0_3 l0_4).bind fun bt1859 => ((xJ.f k bt1849.1 bt1849.2.1 bt1849.2.2.1 bt1849.2.2.2.1 bt1849.2.2.2.2 bt1859.1 bt1859.2.1 bt1859.2.2.1 bt1859.2.2.2.1 bt1859.2.2.2.2).bind fun t1866 => (if t1866 = true then (some true) else (none)))) else (none)) else (none)))))))
theorem xE.mono : ∀ a0 a1 a2 a3 a4 a5 a6 a7 k, LeO (xE.f k a0 a1 a2 a3 a4 a5 a6 a7) (xE.f (k + 1) a0 a1 a2 a3 a4 a5 a6 a7) := by
 intro a0 a1 a2 a3 a4 a5 a6 a7 k
 unfold xE.f
 repeat' first
   | (with_reducible exact yH.mono _ _ _ _ _ _ _ _ _)
   | (with_reducible exact xJ.mono _ _ _ _ _ _ _ _ _ _ _)
   | (with_reducible exact xF.mono _ _ _ _ _ _)
   | (with_reducible exact yN.mono _ _ _ _ _ _ _ _ _)
   | (with_reducible exact LeO.refl _)
   | (with_reducible exact LeO.none _)
   | (with_reducible refine LeO.ite ?_ ?_)
   | (with_reducible refine LeO.bind ?_ (fun _ => ?_))
   | refine LeO.ite ?_ ?_
   | refine LeO.bind ?_ (fun _ => ?_)
def xA.l0 : Nat → List Int → Int → Int → Option (Int)
 | 0, _, _, _ => none
 | k + 1, x0, x1, x5 => if x5 < (x0.length : Int) then (if 0 ≤ x5 then (if (rd x0 x5) = x1 then (xA.l0 k x0 (wrap64 (x1 + 1)) (wrap64 (x5 + 1))) else (some (-1))) else (none)) else (some x1)
def xA.f (k : Nat) (l0 : List Int) (a1 : Int) : Option (Int) := xA.l0 k l0 a1 0
theorem xA.mono_l : ∀ k, (∀ y0 y1 y2, LeO (xA.l0 k y0 y1 y2) (xA.l0 (k + 1) y0 y1 y2))
 | 0 => fun _ _ _ r h => by simp [xA.l0] at h
 | k + 1 => by
  have ih0 := xA.mono_l k
  ·
   intro y0 y1 y2
   unfold xA.l0
   repeat' first
   | (with_reducible exact ih0 _ _ _)
   | (with_reducible exact LeO.refl _)
   | (with_reducible exact LeO.none _)
   | (with_reducible refine LeO.ite ?_ ?_)
   | (with_reducible refine LeO.bind ?_ (fun _ => ?_))
   | refine LeO.ite ?_ ?_
   | refine LeO.bind ?_ (fun _ => ?_)
theorem xA.mono : ∀ a0 a1 k, LeO (xA.f k a0 a1) (xA.f (k + 1) a0 a1) := by
 intro a0 a1 k
 have ih0 := xA.mono_l k
 unfold xA.f
 repeat' first
   | (with_reducible exact ih0 _ _ _)
   | (with_reducible exact LeO.refl _)
   | (with_reducible exact LeO.none _)
   | (with_reducible refine LeO.ite ?_ ?_)
   | (with_reducible refine LeO.bind ?_ (fun _ => ?_))
   | refine LeO.ite ?_ ?_
   | refine LeO.bind ?_ (fun _ => ?_)
def xB.l0 : Nat → List Int → Int → Int → Option (Int × List Int)
 | 0, _, _, _ => none
 | k + 1, x0, x1, x5 => if x5 < (x0.length : Int) then (if 0 ≤ x5 then (xB.l0 k (x0.set (x5 : Int).toNat x1) (wrap64 (x1 + 1)) (wrap64 (x5 + 1))) else (none)) else (some (x1, x0))
def xB.f (k : Nat) (l0 : List Int) (a1 : Int) : Option (Int × List Int) := xB.l0 k l0 a1 0
theorem xB.mono_l : ∀ k, (∀ y0 y1 y2, LeO (xB.l0 k y0 y1 y2) (xB.l0 (k + 1) y0 y1 y2))
 | 0 => fun _ _ _ r h => by simp [xB.l0] at h
 | k + 1 => by
  have ih0 := xB.mono_l k
  ·
   intro y0 y1 y2
   unfold xB.l0
   repeat' first
   | (with_reducible exact ih0 _ _ _)
   | (with_reducible exact LeO.refl _)
   | (with_reducible exact LeO.none _)
   | (with_reducible refine LeO.ite ?_ ?_)
   | (with_reducible refine LeO.bind ?_ (fun _ => ?_))
   | refine LeO.ite ?_ ?_
   | refine LeO.bind ?_ (fun _ => ?_)
theorem xB.mono : ∀ a0 a1 k, LeO (xB.f k a0 a1) (xB.f (k + 1) a0 a1) := by
 intro a0 a1 k
 have ih0 := xB.mono_l k
 unfold xB.f
 repeat' first
   | (with_reducible exact ih0 _ _ _)
   | (with_reducible exact LeO.refl _)
   | (with_reducible exact LeO.none _)
   | (with_reducible refine LeO.ite ?_ ?_)
   | (with_reducible refine LeO.bind ?_ (fun _ => ?_))
   | refine LeO.ite ?_ ?_
   | refine LeO.bind ?_ (fun _ => ?_)
def xR.f (k : Nat) (a0_0 : Int) (a0_1 : Int) (a0_2 : Int) (a0_3 : Int) (l0_4 : List Int) (a1 : Int) : Option (Int) := (xA.f k l0_4 a1).bind fun t279 => (if t279 < 0 then (some (-1)) else (some t279))
theorem xR.mono : ∀ a0 a1 a2 a3 a4 a5 k, LeO (xR.f k a0 a1 a2 a3 a4 a5) (xR.f (k + 1) a0 a1 a2 a3 a4 a5) := by
 intro a0 a1 a2 a3 a4 a5 k
 unfold xR.f
 repeat' first
   | (with_reducible exact xA.mono _ _ _)
   | (with_reducible exact LeO.refl _)
   | (with_reducible exact LeO.none _)
   | (with_reducible refine LeO.ite ?_ ?_)
   | (with_reducible refine LeO.bind ?_ (fun _ => ?_))
   | refine LeO.ite ?_ ?_
   | refine LeO.bind ?_ (fun _ => ?_)
def xS.f (k : Nat) (a0_0 : Int) (a0_1 : Int) (a0_2 : Int) (a0_3 : Int) (l0_4 : List Int) (a1 : Int) : Option (Int × List Int) := (xB.f k l0_4 a1).bind fun bt275 => (some (bt275.1, bt275.2))
theorem xS.mono : ∀ a0 a1 a2 a3 a4 a5 k, LeO (xS.f k a0 a1 a2 a3 a4 a5) (xS.f (k + 1) a0 a1 a2 a3 a4 a5) := by
 intro a0 a1 a2 a3 a4 a5 k
 unfold xS.f
 repeat' first
   | (with_reducible exact xB.mono _ _ _)
   | (with_reducible exact LeO.refl _)
   | (with_reducible exact LeO.none _)
   | (with_reducible refine LeO.ite ?_ ?_)
   | (with_reducible refine LeO.bind ?_ (fun _ => ?_))
   | refine LeO.ite ?_ ?_
   | refine LeO.bind ?_ (fun _ => ?_)
end Go.Proofs.Ytomgliinndfliaa.X
