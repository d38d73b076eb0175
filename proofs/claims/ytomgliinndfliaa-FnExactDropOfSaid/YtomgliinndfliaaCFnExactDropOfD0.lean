/- Part of the proof of the law FnExactDropOf: the functions that the code computes. No condition of its own. -/
import Derived.Test.YtomgliinndfliaaCFnExactDropOfV0
import Derived.Test.YtomgliinndfliaaProg
import Derived.Below
import Derived.Deep.Draws
import Derived.Deep.AppendLies
import Derived.Maps.AppendAt
import Derived.OwnWalk
import Derived.Laws.BytesArg
import Derived.Laws.MakeOwn
import Derived.Laws.OwnMore
import Derived.Deep.OwnRows
import Derived.Tactics
import Derived.Lib.ConvBytes
import Derived.Laws.Slices
import Derived.WalkKit
import Derived.KernelRfl
import Derived.RowKit3
import Derived.Deep.LoopGhost
import Derived.Deep.QuietTactic
import Derived.BigQuiet
import Derived.WideLaws
import Derived.Deep.DeepCutAuto
import Derived.Deep.CutBlock
import Derived.Deep.RegionHeld3
import Derived.Laws.Rows
import Derived.Lib.AppendStr
import Derived.ArgAppend
import Derived.Laws.IdiomCopy
import Derived.OrdersHeld
import Derived.Laws.BitsLemmas
import Derived.RowKit
namespace Go.Proofs.Ytomgliinndfliaa.X
open Go.RowKit Go.Proofs.YtomgliinndfliaaW.PrintWords Go.Proofs.YtomgliinndfliaaW.PrintLast Go.Proofs.YtomgliinndfliaaW.PrintMore
attribute [local go_sem] max2_int min2_int max_two min_two max_three min_three max_four min_four   -- for this text's walks alone
set_option linter.unusedVariables false
set_option linter.unusedSimpArgs false



def errW : Option Int → Value
  | none => .nilIface
  | some c => .iface 0 (.int .i64 c)
theorem errW_none : errW none = .nilIface := rfl
theorem errW_some (c : Int) : errW (some c) = .iface 0 (.int .i64 c) := rfl

theorem info2 : (Try.prog.info? 2).map (fun i => (i.zero, i.size, i.bytes)) = some (some (.int .i64 0), 1, 8) := by kernel_rfl
theorem info38 : (Try.prog.info? 38).map (fun i => (i.zero, i.size, i.bytes)) = some (some (.agg #[(.int .i64 0), (.int .i64 0)]), 2, 16) := by kernel_rfl
theorem info87 : (Try.prog.info? 87).map (fun i => (i.zero, i.size, i.bytes)) = some (some (.agg #[(.int .i64 0), (.int .i64 0), (.int .i64 0), (.int .i64 0)]), 4, 32) := by kernel_rfl
theorem info90 : (Try.prog.info? 90).map (fun i => (i.zero, i.size, i.bytes)) = some (some (.agg #[(.int .i64 0), (.int .i64 0), (.int .i64 0), (.int .i64 0), (.int .i64 0), (.int .i64 0)]), 6, 48) := by kernel_rfl
-- the values' own types
/-! #### struct type 38 -/
structure S38 where
  f0 : Int
  f1 : Int
def z38 : S38 := ⟨(0 : Int), (0 : Int)⟩
def k38 : Kd S38 := Kd.iso (Kd.pair (Kd.int .i64) (Kd.int .i64)) (fun x : S38 => (x.f0, x.f1))
theorem k38_open {w : World} {x : S38} {cs : List Value} (h : k38.K w x cs) : cs = [.int .i64 x.f0, .int .i64 x.f1] := by
  obtain ⟨_, _, rfl, rfl, rfl⟩ := h
  exact rfl
theorem k38_openM {w : World} {base : Nat} {ok : Nat → Prop} {x : S38} {cs : List Value} (h : k38.M w base ok x cs) : cs = [.int .i64 x.f0, .int .i64 x.f1] := by
  obtain ⟨_, _, rfl, rfl, rfl⟩ := h
  exact rfl
theorem k38_mk (w : World) (x : S38)  : k38.K w x [.int .i64 x.f0, .int .i64 x.f1] := ⟨[.int .i64 x.f0], [.int .i64 x.f1], rfl, rfl, rfl⟩
theorem k38_mkM (w : World) (base : Nat) (ok : Nat → Prop) (x : S38)  : k38.M w base ok x [.int .i64 x.f0, .int .i64 x.f1] := ⟨[.int .i64 x.f0], [.int .i64 x.f1], rfl, rfl, rfl⟩
theorem k38_mkF (W : World) (ok : Nat → Prop) (x : S38) : Kd.FK k38 W ok x [.int .i64 x.f0, .int .i64 x.f1] := fun W2 _ => k38_mk W2 x
def rd_T38 (xs : List S38) (i : Int) : S38 := xs.getD i.toNat z38
theorem at_T38 {w : World} {A : Option Addr} {n : Nat} {xs : List S38} (h : Kd.C k38 w A n xs) (i : Int) (h0 : 0 ≤ i) (h1 : i < n) : ∃ ad , A = some ad ∧ w.cell? (ad.add (i.toNat * 2)) = some (.int .i64 (rd_T38 xs i).f0) ∧ w.cell? ⟨(ad.add (i.toNat * 2)).block, (ad.add (i.toNat * 2)).off + 1, none⟩ = some (.int .i64 (rd_T38 xs i).f1) := by
  obtain ⟨ad, c, e, _, hK, hc0⟩ := Kd.C_get h z38 i h0 h1
  have hc : ∀ j u, c[j]? = some u → w.cell? (ad.add (i.toNat * 2 + j)) = some u := hc0
  obtain rfl := k38_open hK
  exact ⟨ad, e, hc 0 _ rfl, by rw [← add_field _ _ 1 (by omega)]; exact hc 1 _ rfl⟩

def rd_L2 (xs : List (List Int)) (i : Int) : (List Int) := xs.getD i.toNat ([] : List Int)
theorem at_L2 {w : World} {A : Option Addr} {n : Nat} {xs : List (List Int)} (h : Kd.C (Kd.slice 2 (Kd.int .i64)) w A n xs) (i : Int) (h0 : 0 ≤ i) (h1 : i < n) : ∃ ad A0 c0, A = some ad ∧ w.cell? (ad.add i.toNat) = some (.slice A0 (rd_L2 xs i).length c0) ∧ (rd_L2 xs i).length ≤ c0 ∧ (Kd.int .i64).C w A0 (rd_L2 xs i).length (rd_L2 xs i) := by
  obtain ⟨ad, c, e, _, hK, hc0⟩ := Kd.C_get h ([] : List Int) i h0 h1
  have hc : ∀ j u, c[j]? = some u → w.cell? (ad.add (i.toNat * 1 + j)) = some u := hc0
  obtain ⟨A0, c0, rfl, l0, g0⟩ := hK
  exact ⟨ad, A0, c0, e, by have hq := hc 0 _ rfl; rwa [Nat.mul_one, Nat.add_zero] at hq, l0, g0⟩

/-! #### struct type 95 -/
structure S95 where
  f0 : Int
  f1 : Int
def z95 : S95 := ⟨(0 : Int), (0 : Int)⟩
def k95 : Kd S95 := Kd.iso (Kd.pair (Kd.int .i64) (Kd.int .i64)) (fun x : S95 => (x.f0, x.f1))
theorem k95_open {w : World} {x : S95} {cs : List Value} (h : k95.K w x cs) : cs = [.int .i64 x.f0, .int .i64 x.f1] := by
  obtain ⟨_, _, rfl, rfl, rfl⟩ := h
  exact rfl
theorem k95_openM {w : World} {base : Nat} {ok : Nat → Prop} {x : S95} {cs : List Value} (h : k95.M w base ok x cs) : cs = [.int .i64 x.f0, .int .i64 x.f1] := by
  obtain ⟨_, _, rfl, rfl, rfl⟩ := h
  exact rfl
theorem k95_mk (w : World) (x : S95)  : k95.K w x [.int .i64 x.f0, .int .i64 x.f1] := ⟨[.int .i64 x.f0], [.int .i64 x.f1], rfl, rfl, rfl⟩
theorem k95_mkM (w : World) (base : Nat) (ok : Nat → Prop) (x : S95)  : k95.M w base ok x [.int .i64 x.f0, .int .i64 x.f1] := ⟨[.int .i64 x.f0], [.int .i64 x.f1], rfl, rfl, rfl⟩
theorem k95_mkF (W : World) (ok : Nat → Prop) (x : S95) : Kd.FK k95 W ok x [.int .i64 x.f0, .int .i64 x.f1] := fun W2 _ => k95_mk W2 x
def rd_T95 (xs : List S95) (i : Int) : S95 := xs.getD i.toNat z95
theorem at_T95 {w : World} {A : Option Addr} {n : Nat} {xs : List S95} (h : Kd.C k95 w A n xs) (i : Int) (h0 : 0 ≤ i) (h1 : i < n) : ∃ ad , A = some ad ∧ w.cell? (ad.add (i.toNat * 2)) = some (.int .i64 (rd_T95 xs i).f0) ∧ w.cell? ⟨(ad.add (i.toNat * 2)).block, (ad.add (i.toNat * 2)).off + 1, none⟩ = some (.int .i64 (rd_T95 xs i).f1) := by
  obtain ⟨ad, c, e, _, hK, hc0⟩ := Kd.C_get h z95 i h0 h1
  have hc : ∀ j u, c[j]? = some u → w.cell? (ad.add (i.toNat * 2 + j)) = some u := hc0
  obtain rfl := k95_open hK
  exact ⟨ad, e, hc 0 _ rfl, by rw [← add_field _ _ 1 (by omega)]; exact hc 1 _ rfl⟩

/-! #### struct type 87 -/
structure S87 where
  f0 : Int
  f1 : Int
  f2 : Int
  f3 : Int
def z87 : S87 := ⟨(0 : Int), (0 : Int), (0 : Int), (0 : Int)⟩
def k87 : Kd S87 := Kd.iso (Kd.pair (Kd.int .i64) (Kd.pair (Kd.int .i64) (Kd.pair (Kd.int .i64) (Kd.int .i64)))) (fun x : S87 => (x.f0, x.f1, x.f2, x.f3))
theorem k87_open {w : World} {x : S87} {cs : List Value} (h : k87.K w x cs) : cs = [.int .i64 x.f0, .int .i64 x.f1, .int .i64 x.f2, .int .i64 x.f3] := by
  obtain ⟨_, _, rfl, rfl, ⟨_, _, rfl, rfl, ⟨_, _, rfl, rfl, rfl⟩⟩⟩ := h
  exact rfl
theorem k87_openM {w : World} {base : Nat} {ok : Nat → Prop} {x : S87} {cs : List Value} (h : k87.M w base ok x cs) : cs = [.int .i64 x.f0, .int .i64 x.f1, .int .i64 x.f2, .int .i64 x.f3] := by
  obtain ⟨_, _, rfl, rfl, ⟨_, _, rfl, rfl, ⟨_, _, rfl, rfl, rfl⟩⟩⟩ := h
  exact rfl
theorem k87_mk (w : World) (x : S87)  : k87.K w x [.int .i64 x.f0, .int .i64 x.f1, .int .i64 x.f2, .int .i64 x.f3] := ⟨[.int .i64 x.f0], [.int .i64 x.f1, .int .i64 x.f2, .int .i64 x.f3], rfl, rfl, ⟨[.int .i64 x.f1], [.int .i64 x.f2, .int .i64 x.f3], rfl, rfl, ⟨[.int .i64 x.f2], [.int .i64 x.f3], rfl, rfl, rfl⟩⟩⟩
theorem k87_mkM (w : World) (base : Nat) (ok : Nat → Prop) (x : S87)  : k87.M w base ok x [.int .i64 x.f0, .int .i64 x.f1, .int .i64 x.f2, .int .i64 x.f3] := ⟨[.int .i64 x.f0], [.int .i64 x.f1, .int .i64 x.f2, .int .i64 x.f3], rfl, rfl, ⟨[.int .i64 x.f1], [.int .i64 x.f2, .int .i64 x.f3], rfl, rfl, ⟨[.int .i64 x.f2], [.int .i64 x.f3], rfl, rfl, rfl⟩⟩⟩
theorem k87_mkF (W : World) (ok : Nat → Prop) (x : S87) : Kd.FK k87 W ok x [.int .i64 x.f0, .int .i64 x.f1, .int .i64 x.f2, .int .i64 x.f3] := fun W2 _ => k87_mk W2 x
def rd_T87 (xs : List S87) (i : Int) : S87 := xs.getD i.toNat z87
theorem at_T87 {w : World} {A : Option Addr} {n : Nat} {xs : List S87} (h : Kd.C k87 w A n xs) (i : Int) (h0 : 0 ≤ i) (h1 : i < n) : ∃ ad , A = some ad ∧ w.cell? (ad.add (i.toNat * 4)) = some (.int .i64 (rd_T87 xs i).f0) ∧ w.cell? ⟨(ad.add (i.toNat * 4)).block, (ad.add (i.toNat * 4)).off + 1, none⟩ = some (.int .i64 (rd_T87 xs i).f1) ∧ w.cell? ⟨(ad.add (i.toNat * 4)).block, (ad.add (i.toNat * 4)).off + 2, none⟩ = some (.int .i64 (rd_T87 xs i).f2) ∧ w.cell? ⟨(ad.add (i.toNat * 4)).block, (ad.add (i.toNat * 4)).off + 3, none⟩ = some (.int .i64 (rd_T87 xs i).f3) := by
  obtain ⟨ad, c, e, _, hK, hc0⟩ := Kd.C_get h z87 i h0 h1
  have hc : ∀ j u, c[j]? = some u → w.cell? (ad.add (i.toNat * 4 + j)) = some u := hc0
  obtain rfl := k87_open hK
  exact ⟨ad, e, hc 0 _ rfl, by rw [← add_field _ _ 1 (by omega)]; exact hc 1 _ rfl, by rw [← add_field _ _ 2 (by omega)]; exact hc 2 _ rfl, by rw [← add_field _ _ 3 (by omega)]; exact hc 3 _ rfl⟩

/-! #### struct type 90 -/
structure S90 where
  f0 : S87
  f1 : S38
def z90 : S90 := ⟨z87, z38⟩
def k90 : Kd S90 := Kd.iso (Kd.pair k87 k38) (fun x : S90 => (x.f0, x.f1))
theorem k90_open {w : World} {x : S90} {cs : List Value} (h : k90.K w x cs) : cs = [.int .i64 x.f0.f0, .int .i64 x.f0.f1, .int .i64 x.f0.f2, .int .i64 x.f0.f3, .int .i64 x.f1.f0, .int .i64 x.f1.f1] := by
  obtain ⟨_, _, rfl, s0, s4⟩ := h
  obtain rfl := k87_open s0
  obtain rfl := k38_open s4
  exact rfl
theorem k90_openM {w : World} {base : Nat} {ok : Nat → Prop} {x : S90} {cs : List Value} (h : k90.M w base ok x cs) : cs = [.int .i64 x.f0.f0, .int .i64 x.f0.f1, .int .i64 x.f0.f2, .int .i64 x.f0.f3, .int .i64 x.f1.f0, .int .i64 x.f1.f1] := by
  obtain ⟨_, _, rfl, s0, s4⟩ := h
  obtain rfl := k87_openM s0
  obtain rfl := k38_openM s4
  exact rfl
theorem k90_mk (w : World) (x : S90)  : k90.K w x [.int .i64 x.f0.f0, .int .i64 x.f0.f1, .int .i64 x.f0.f2, .int .i64 x.f0.f3, .int .i64 x.f1.f0, .int .i64 x.f1.f1] := ⟨[.int .i64 x.f0.f0, .int .i64 x.f0.f1, .int .i64 x.f0.f2, .int .i64 x.f0.f3], [.int .i64 x.f1.f0, .int .i64 x.f1.f1], rfl, (k87_mk w x.f0 ), (k38_mk w x.f1 )⟩
theorem k90_mkM (w : World) (base : Nat) (ok : Nat → Prop) (x : S90)  : k90.M w base ok x [.int .i64 x.f0.f0, .int .i64 x.f0.f1, .int .i64 x.f0.f2, .int .i64 x.f0.f3, .int .i64 x.f1.f0, .int .i64 x.f1.f1] := ⟨[.int .i64 x.f0.f0, .int .i64 x.f0.f1, .int .i64 x.f0.f2, .int .i64 x.f0.f3], [.int .i64 x.f1.f0, .int .i64 x.f1.f1], rfl, (k87_mkM w base ok x.f0 ), (k38_mkM w base ok x.f1 )⟩
theorem k90_mkF (W : World) (ok : Nat → Prop) (x : S90) : Kd.FK k90 W ok x [.int .i64 x.f0.f0, .int .i64 x.f0.f1, .int .i64 x.f0.f2, .int .i64 x.f0.f3, .int .i64 x.f1.f0, .int .i64 x.f1.f1] := fun W2 _ => k90_mk W2 x
def rd_T90 (xs : List S90) (i : Int) : S90 := xs.getD i.toNat z90
theorem at_T90 {w : World} {A : Option Addr} {n : Nat} {xs : List S90} (h : Kd.C k90 w A n xs) (i : Int) (h0 : 0 ≤ i) (h1 : i < n) : ∃ ad , A = some ad ∧ w.cell? (ad.add (i.toNat * 6)) = some (.int .i64 (rd_T90 xs i).f0.f0) ∧ w.cell? ⟨(ad.add (i.toNat * 6)).block, (ad.add (i.toNat * 6)).off + 1, none⟩ = some (.int .i64 (rd_T90 xs i).f0.f1) ∧ w.cell? ⟨(ad.add (i.toNat * 6)).block, (ad.add (i.toNat * 6)).off + 2, none⟩ = some (.int .i64 (rd_T90 xs i).f0.f2) ∧ w.cell? ⟨(ad.add (i.toNat * 6)).block, (ad.add (i.toNat * 6)).off + 3, none⟩ = some (.int .i64 (rd_T90 xs i).f0.f3) ∧ w.cell? ⟨(ad.add (i.toNat * 6)).block, (ad.add (i.toNat * 6)).off + 4, none⟩ = some (.int .i64 (rd_T90 xs i).f1.f0) ∧ w.cell? ⟨(ad.add (i.toNat * 6)).block, (ad.add (i.toNat * 6)).off + 5, none⟩ = some (.int .i64 (rd_T90 xs i).f1.f1) := by
  obtain ⟨ad, c, e, _, hK, hc0⟩ := Kd.C_get h z90 i h0 h1
  have hc : ∀ j u, c[j]? = some u → w.cell? (ad.add (i.toNat * 6 + j)) = some u := hc0
  obtain rfl := k90_open hK
  exact ⟨ad, e, hc 0 _ rfl, by rw [← add_field _ _ 1 (by omega)]; exact hc 1 _ rfl, by rw [← add_field _ _ 2 (by omega)]; exact hc 2 _ rfl, by rw [← add_field _ _ 3 (by omega)]; exact hc 3 _ rfl, by rw [← add_field _ _ 4 (by omega)]; exact hc 4 _ rfl, by rw [← add_field _ _ 5 (by omega)]; exact hc 5 _ rfl⟩


/-! ### laws_szInt64S: function 56 -/
def laws_szInt64S.f (l0 : List Int) (a1 : Int) : Option (Int) := if (wrap64 (a1 - (l0.length : Int))) < 0 then (some (-1)) else (some (wrap64 (a1 - (l0.length : Int))))


/-! ### laws_szPattern: function 14 -/
def laws_szPattern.f (a0_0 : Int) (a0_1 : Int) (a0_2 : Int) (a0_3 : Int) (l0_4 : List Int) (a1 : Int) : Option (Int) := (laws_szInt64S.f l0_4 a1).bind fun t102 => (if t102 < 0 then (some (-1)) else (some t102))


/-! ### laws_toLattice: function 62 -/
def laws_toLattice.f (a0_0 : Int) (a0_1 : Int) (a0_2 : Int) : Option (Int × Int × Int) := some (a0_0, a0_1, a0_2)


/-! ### laws_toInt64S: function 63 -/
def laws_toInt64S.l0 : Nat → List Int → List Int → Int → Option (List Int)
 | 0, _, _, _ => none
 | k + 1, x0, x3, x4 => if x4 < (x0.length : Int) then (if 0 ≤ x4 then (if x4 < (x3.length : Int) then (laws_toInt64S.l0 k x0 (x3.set (x4 : Int).toNat (rd x0 x4)) (wrap64 (x4 + 1))) else (none)) else (none)) else (some x3)
def laws_toInt64S.f (k : Nat) (l0 : List Int) : Option (List Int) := if 0 ≤ (l0.length : Int) then (if ((l0.length : Int) : Int).toNat ≤ 35184372088832 then (laws_toInt64S.l0 k l0 (List.replicate ((l0.length : Int) : Int).toNat 0) 0) else (none)) else (none)
theorem laws_toInt64S.mono_l : ∀ k, (∀ y0 y1 y2, LeO (laws_toInt64S.l0 k y0 y1 y2) (laws_toInt64S.l0 (k + 1) y0 y1 y2))
 | 0 => fun _ _ _ r h => by simp [laws_toInt64S.l0] at h
 | k + 1 => by
  have ih0 := laws_toInt64S.mono_l k
  ·
   intro y0 y1 y2
   unfold laws_toInt64S.l0
   repeat' first
   | (with_reducible exact ih0 _ _ _)
   | (with_reducible exact LeO.refl _)
   | (with_reducible exact LeO.none _)
   | (with_reducible refine LeO.ite ?_ ?_)
   | (with_reducible refine LeO.bind ?_ (fun _ => ?_))
   | refine LeO.ite ?_ ?_
   | refine LeO.bind ?_ (fun _ => ?_)
theorem laws_toInt64S.mono : ∀ a0 k, LeO (laws_toInt64S.f k a0) (laws_toInt64S.f (k + 1) a0) := by
 intro a0 k
 have ih0 := laws_toInt64S.mono_l k
 unfold laws_toInt64S.f
 repeat' first
   | (with_reducible exact ih0 _ _ _)
   | (with_reducible exact LeO.refl _)
   | (with_reducible exact LeO.none _)
   | (with_reducible refine LeO.ite ?_ ?_)
   | (with_reducible refine LeO.bind ?_ (fun _ => ?_))
   | refine LeO.ite ?_ ?_
   | refine LeO.bind ?_ (fun _ => ?_)


/-! ### laws_toPattern: function 16 -/
def laws_toPattern.f (k : Nat) (a0_0 : Int) (a0_1 : Int) (a0_2 : Int) (a0_3 : Int) (l0_4 : List Int) : Option (Int × Int × Int × Int × List Int) := (laws_toLattice.f a0_1 a0_2 a0_3).bind fun bt192 => ((laws_toInt64S.f k l0_4).bind fun t195 => (some (a0_0, bt192.1, bt192.2.1, bt192.2.2, t195)))
theorem laws_toPattern.mono : ∀ a0 a1 a2 a3 a4 k, LeO (laws_toPattern.f k a0 a1 a2 a3 a4) (laws_toPattern.f (k + 1) a0 a1 a2 a3 a4) := by
 intro a0 a1 a2 a3 a4 k
 unfold laws_toPattern.f
 repeat' first
   | (with_reducible exact laws_toInt64S.mono _ _)
   | (with_reducible exact LeO.refl _)
   | (with_reducible exact LeO.none _)
   | (with_reducible refine LeO.ite ?_ ?_)
   | (with_reducible refine LeO.bind ?_ (fun _ => ?_))
   | refine LeO.ite ?_ ?_
   | refine LeO.bind ?_ (fun _ => ?_)


/-! ### laws_eqLattice: function 69 -/
def laws_eqLattice.f (a0_0 : Int) (a0_1 : Int) (a0_2 : Int) (a1_0 : Int) (a1_1 : Int) (a1_2 : Int) : Option (Bool) := if a0_0 = a1_0 then (if a0_1 = a1_1 then (if a0_2 = a1_2 then (some true) else (some false)) else (some false)) else (some false)


/-! ### laws_eqInt64S: function 70 -/
def laws_eqInt64S.l0 : Nat → List Int → List Int → Int → Option (Bool)
 | 0, _, _, _ => none
 | k + 1, x0, x1, x5 => if x5 < (x0.length : Int) then (if 0 ≤ x5 then (if x5 < (x1.length : Int) then (if (rd x0 x5) = (rd x1 x5) then (laws_eqInt64S.l0 k x0 x1 (wrap64 (x5 + 1))) else (some false)) else (none)) else (none)) else (some true)
def laws_eqInt64S.f (k : Nat) (l0 : List Int) (l1 : List Int) : Option (Bool) := if (l0.length : Int) = (l1.length : Int) then (laws_eqInt64S.l0 k l0 l1 0) else (some false)
theorem laws_eqInt64S.mono_l : ∀ k, (∀ y0 y1 y2, LeO (laws_eqInt64S.l0 k y0 y1 y2) (laws_eqInt64S.l0 (k + 1) y0 y1 y2))
 | 0 => fun _ _ _ r h => by simp [laws_eqInt64S.l0] at h
 | k + 1 => by
  have ih0 := laws_eqInt64S.mono_l k
  ·
   intro y0 y1 y2
   unfold laws_eqInt64S.l0
   repeat' first
   | (with_reducible exact ih0 _ _ _)
   | (with_reducible exact LeO.refl _)
   | (with_reducible exact LeO.none _)
   | (with_reducible refine LeO.ite ?_ ?_)
   | (with_reducible refine LeO.bind ?_ (fun _ => ?_))
   | refine LeO.ite ?_ ?_
   | refine LeO.bind ?_ (fun _ => ?_)
theorem laws_eqInt64S.mono : ∀ a0 a1 k, LeO (laws_eqInt64S.f k a0 a1) (laws_eqInt64S.f (k + 1) a0 a1) := by
 intro a0 a1 k
 have ih0 := laws_eqInt64S.mono_l k
 unfold laws_eqInt64S.f
 repeat' first
   | (with_reducible exact ih0 _ _ _)
   | (with_reducible exact LeO.refl _)
   | (with_reducible exact LeO.none _)
   | (with_reducible refine LeO.ite ?_ ?_)
   | (with_reducible refine LeO.bind ?_ (fun _ => ?_))
   | refine LeO.ite ?_ ?_
   | refine LeO.bind ?_ (fun _ => ?_)


/-! ### laws_eqPattern: function 18 -/
def laws_eqPattern.f (k : Nat) (a0_0 : Int) (a0_1 : Int) (a0_2 : Int) (a0_3 : Int) (l0_4 : List Int) (a1_0 : Int) (a1_1 : Int) (a1_2 : Int) (a1_3 : Int) (l1_4 : List Int) : Option (Bool) := if a0_0 = a1_0 then ((laws_eqLattice.f a0_1 a0_2 a0_3 a1_1 a1_2 a1_3).bind fun t271 => (if t271 = true then ((laws_eqInt64S.f k l0_4 l1_4).bind fun t272 => (if t272 = true then (some true) else (some false))) else (some false))) else (some false)
theorem laws_eqPattern.mono : ∀ a0 a1 a2 a3 a4 a5 a6 a7 a8 a9 k, LeO (laws_eqPattern.f k a0 a1 a2 a3 a4 a5 a6 a7 a8 a9) (laws_eqPattern.f (k + 1) a0 a1 a2 a3 a4 a5 a6 a7 a8 a9) := by
 intro a0 a1 a2 a3 a4 a5 a6 a7 a8 a9 k
 unfold laws_eqPattern.f
 repeat' first
   | (with_reducible exact laws_eqInt64S.mono _ _ _)
   | (with_reducible exact LeO.refl _)
   | (with_reducible exact LeO.none _)
   | (with_reducible refine LeO.ite ?_ ?_)
   | (with_reducible refine LeO.bind ?_ (fun _ => ?_))
   | refine LeO.ite ?_ ?_
   | refine LeO.bind ?_ (fun _ => ?_)


/-! ### spec_l01In: function 92 -/
def spec_l01In.f (a0 : Int) (a1 : Int) (a2 : Int) : Option (Bool) := if a0 ≥ a1 then (some (decide (a0 ≤ a2))) else (some false)


/-! ### spec_l01Within: function 58 -/
def spec_l01Within.l0 : Nat → List Int → Int → Int → Int → Int → Option (Bool)
 | 0, _, _, _, _, _ => none
 | k + 1, x0, x1, x2, x3, x9 => if x9 < (x0.length : Int) then (if 0 ≤ x9 then ((spec_l01In.f (rd x0 x9) x2 x3).bind fun t104 => (if t104 = true then (spec_l01Within.l0 k x0 x1 x2 x3 (wrap64 (x9 + 1))) else (some false))) else (none)) else (some (decide ((x0.length : Int) ≤ x1)))
def spec_l01Within.f (k : Nat) (l0 : List Int) (a1 : Int) (a2 : Int) (a3 : Int) : Option (Bool) := spec_l01Within.l0 k l0 a1 a2 a3 0
theorem spec_l01Within.mono_l : ∀ k, (∀ y0 y1 y2 y3 y4, LeO (spec_l01Within.l0 k y0 y1 y2 y3 y4) (spec_l01Within.l0 (k + 1) y0 y1 y2 y3 y4))
 | 0 => fun _ _ _ _ _ r h => by simp [spec_l01Within.l0] at h
 | k + 1 => by
  have ih0 := spec_l01Within.mono_l k
  ·
   intro y0 y1 y2 y3 y4
   unfold spec_l01Within.l0
   repeat' first
   | (with_reducible exact ih0 _ _ _ _ _)
   | (with_reducible exact LeO.refl _)
   | (with_reducible exact LeO.none _)
   | (with_reducible refine LeO.ite ?_ ?_)
   | (with_reducible refine LeO.bind ?_ (fun _ => ?_))
   | refine LeO.ite ?_ ?_
   | refine LeO.bind ?_ (fun _ => ?_)
theorem spec_l01Within.mono : ∀ a0 a1 a2 a3 k, LeO (spec_l01Within.f k a0 a1 a2 a3) (spec_l01Within.f (k + 1) a0 a1 a2 a3) := by
 intro a0 a1 a2 a3 k
 have ih0 := spec_l01Within.mono_l k
 unfold spec_l01Within.f
 repeat' first
   | (with_reducible exact ih0 _ _ _ _ _)
   | (with_reducible exact LeO.refl _)
   | (with_reducible exact LeO.none _)
   | (with_reducible refine LeO.ite ?_ ?_)
   | (with_reducible refine LeO.bind ?_ (fun _ => ?_))
   | refine LeO.ite ?_ ?_
   | refine LeO.bind ?_ (fun _ => ?_)


/-! ### spec_IsFrame: function 160 -/
def spec_IsFrame.f (a0 : Int) : Option (Bool) := if a0 = 0 then (some true) else (some (a0 == 1))


/-! ### spec_IsLattice: function 161 -/
def spec_IsLattice.f (a0_0 : Int) (a0_1 : Int) (a0_2 : Int) : Option (Bool) := (spec_l01In.f a0_0 1 64).bind fun t106 => (if t106 = true then ((spec_l01In.f a0_2 1 64).bind fun t107 => (if t107 = true then ((spec_l01In.f a0_1 0 (wrap64 (a0_0 - 1))).bind fun t108 => (if t108 = true then (some (decide ((wrap64 (a0_0 * a0_2)) ≤ 64))) else (some false))) else (some false))) else (some false))


/-! ### spec_l04Code: function 125 -/
def spec_l04Code.f (a0 : Int) (a1_0 : Int) (a1_1 : Int) (a1_2 : Int) : Option (Int) := (spec_IsFrame.f a0).bind fun t110 => (if t110 = true then ((spec_IsLattice.f a1_0 a1_1 a1_2).bind fun t111 => (if t111 = true then (some 0) else (some 1))) else (some 1))


/-! ### spec_IsPattern: function 73 -/
def spec_IsPattern.f (k : Nat) (a0_0 : Int) (a0_1 : Int) (a0_2 : Int) (a0_3 : Int) (l0_4 : List Int) : Option (Bool) := (spec_l04Code.f a0_0 a0_1 a0_2 a0_3).bind fun t113 => (if t113 = 0 then (if (l0_4.length : Int) = (wrap64 (a0_1 * a0_3)) then ((spec_l01Within.f k l0_4 64 0 9).bind fun t114 => (some t114)) else (some false)) else (some false))
theorem spec_IsPattern.mono : ∀ a0 a1 a2 a3 a4 k, LeO (spec_IsPattern.f k a0 a1 a2 a3 a4) (spec_IsPattern.f (k + 1) a0 a1 a2 a3 a4) := by
 intro a0 a1 a2 a3 a4 k
 unfold spec_IsPattern.f
 repeat' first
   | (with_reducible exact spec_l01Within.mono _ _ _ _ _)
   | (with_reducible exact LeO.refl _)
   | (with_reducible exact LeO.none _)
   | (with_reducible refine LeO.ite ?_ ?_)
   | (with_reducible refine LeO.bind ?_ (fun _ => ?_))
   | refine LeO.ite ?_ ?_
   | refine LeO.bind ?_ (fun _ => ?_)


/-! ### spec_l03Cells: function 74 -/
mutual
def spec_l03Cells.l0 : Nat → List (S38) → Int → Int → Int → Int → Option ((List (S38)))
 | 0, _, _, _, _, _ => none
 | k + 1, x3, x4, x127000, x127001, x127002 => if x4 < x127000 then (spec_l03Cells.l1 k x3 x4 0 x127000 x127001 x127002) else (some x3)
def spec_l03Cells.l1 : Nat → List (S38) → Int → Int → Int → Int → Int → Option ((List (S38)))
 | 0, _, _, _, _, _, _ => none
 | k + 1, x3, x4, x5, x127000, x127001, x127002 => if x5 < x127002 then (if x3.length < 8796093022208 then (spec_l03Cells.l1 k (x3 ++ [(⟨x4, x5⟩ : S38)]) x4 (wrap64 (x5 + 1)) x127000 x127001 x127002) else (none)) else (spec_l03Cells.l0 k x3 (wrap64 (x4 + 1)) x127000 x127001 x127002)
end
def spec_l03Cells.f (k : Nat) (a0_0 : Int) (a0_1 : Int) (a0_2 : Int) : Option ((List (S38))) := spec_l03Cells.l0 k (([] : List (S38))) 0 a0_0 a0_1 a0_2
theorem spec_l03Cells.mono_l : ∀ k, (∀ y0 y1 y2 y3 y4, LeO (spec_l03Cells.l0 k y0 y1 y2 y3 y4) (spec_l03Cells.l0 (k + 1) y0 y1 y2 y3 y4)) ∧ (∀ y0 y1 y2 y3 y4 y5, LeO (spec_l03Cells.l1 k y0 y1 y2 y3 y4 y5) (spec_l03Cells.l1 (k + 1) y0 y1 y2 y3 y4 y5))
 | 0 => ⟨fun _ _ _ _ _ r h => by simp [spec_l03Cells.l0] at h, fun _ _ _ _ _ _ r h => by simp [spec_l03Cells.l1] at h⟩
 | k + 1 => by
  obtain ⟨ih0, ih1⟩ := spec_l03Cells.mono_l k
  refine ⟨?_, ?_⟩
  ·
   intro y0 y1 y2 y3 y4
   unfold spec_l03Cells.l0
   repeat' first
   | (with_reducible exact ih0 _ _ _ _ _)
   | (with_reducible exact ih1 _ _ _ _ _ _)
   | (with_reducible exact LeO.refl _)
   | (with_reducible exact LeO.none _)
   | (with_reducible refine LeO.ite ?_ ?_)
   | (with_reducible refine LeO.bind ?_ (fun _ => ?_))
   | refine LeO.ite ?_ ?_
   | refine LeO.bind ?_ (fun _ => ?_)
  ·
   intro y0 y1 y2 y3 y4 y5
   unfold spec_l03Cells.l1
   repeat' first
   | (with_reducible exact ih0 _ _ _ _ _)
   | (with_reducible exact ih1 _ _ _ _ _ _)
   | (with_reducible exact LeO.refl _)
   | (with_reducible exact LeO.none _)
   | (with_reducible refine LeO.ite ?_ ?_)
   | (with_reducible refine LeO.bind ?_ (fun _ => ?_))
   | refine LeO.ite ?_ ?_
   | refine LeO.bind ?_ (fun _ => ?_)
theorem spec_l03Cells.mono : ∀ a0 a1 a2 k, LeO (spec_l03Cells.f k a0 a1 a2) (spec_l03Cells.f (k + 1) a0 a1 a2) := by
 intro a0 a1 a2 k
 obtain ⟨ih0, ih1⟩ := spec_l03Cells.mono_l k
 unfold spec_l03Cells.f
 repeat' first
   | (with_reducible exact ih0 _ _ _ _ _)
   | (with_reducible exact ih1 _ _ _ _ _ _)
   | (with_reducible exact LeO.refl _)
   | (with_reducible exact LeO.none _)
   | (with_reducible refine LeO.ite ?_ ?_)
   | (with_reducible refine LeO.bind ?_ (fun _ => ?_))
   | refine LeO.ite ?_ ?_
   | refine LeO.bind ?_ (fun _ => ?_)


/-! ### spec_l02Unit: function 77 -/
def spec_l02Unit.f  : Option (Int × Int × Int × Int) := some (1, 0, 0, 1)


/-! ### spec_l01Add: function 117 -/
def spec_l01Add.f (a0_0 : Int) (a0_1 : Int) (a1_0 : Int) (a1_1 : Int) : Option (Int × Int) := some (wrap64 (a0_0 + a1_0), wrap64 (a0_1 + a1_1))


/-! ### spec_l02Apply: function 164 -/
def spec_l02Apply.f (a0_0 : Int) (a0_1 : Int) (a0_2 : Int) (a0_3 : Int) (a1_0 : Int) (a1_1 : Int) : Option (Int × Int) := some (wrap64 ((wrap64 (a0_0 * a1_0)) + (wrap64 (a0_1 * a1_1))), wrap64 ((wrap64 (a0_2 * a1_0)) + (wrap64 (a0_3 * a1_1))))


/-! ### spec_l05Apply: function 128 -/
def spec_l05Apply.f (a0_0 : Int) (a0_1 : Int) (a0_2 : Int) (a0_3 : Int) (a0_4 : Int) (a0_5 : Int) (a1_0 : Int) (a1_1 : Int) : Option (Int × Int) := (spec_l02Apply.f a0_0 a0_1 a0_2 a0_3 a1_0 a1_1).bind fun bt395 => ((spec_l01Add.f bt395.1 bt395.2 a0_4 a0_5).bind fun bt397 => (some (bt397.1, bt397.2)))


/-! ### spec_l01Mod: function 156 -/
def spec_l01Mod.f (a0 : Int) (a1 : Int) : Option (Int) := if a1 = 0 then (none) else (if (Int.tmod a0 a1) < 0 then (some (wrap64 ((Int.tmod a0 a1) + a1))) else (some (Int.tmod a0 a1)))


/-! ### spec_l03Reduce: function 158 -/
def spec_l03Reduce.f (a0_0 : Int) (a0_1 : Int) (a0_2 : Int) (a1_0 : Int) (a1_1 : Int) : Option (Int × Int) := (spec_l01Mod.f a1_1 a0_2).bind fun t136 => (if a0_2 = 0 then (none) else ((spec_l01Mod.f (wrap64 (a1_0 - (wrap64 ((wrap64 (Int.tdiv (wrap64 (a1_1 - t136)) a0_2)) * a0_1)))) a0_0).bind fun t137 => (some (t137, t136))))


/-! ### spec_l03Number: function 116 -/
def spec_l03Number.f (a0_0 : Int) (a0_1 : Int) (a0_2 : Int) (a1_0 : Int) (a1_1 : Int) : Option (Int) := (spec_l03Reduce.f a0_0 a0_1 a0_2 a1_0 a1_1).bind fun bt140 => (some (wrap64 ((wrap64 (bt140.1 * a0_2)) + bt140.2)))


/-! ### spec_l09At: function 177 -/
def spec_l09At.f (a0_0 : Int) (a0_1 : Int) (a0_2 : Int) (a0_3 : Int) (l0_4 : List Int) (a1_0 : Int) (a1_1 : Int) : Option (Int) := (spec_l03Number.f a0_1 a0_2 a0_3 a1_0 a1_1).bind fun t1306 => (if 0 ≤ t1306 then (if t1306 < (l0_4.length : Int) then (some (rd l0_4 t1306)) else (none)) else (none))


/-! ### spec_l09Keeps: function 146 -/
def spec_l09Keeps.l0 : Nat → List (S38) → Int → Int → Int → Int → Int → List Int → Int → Int → Int → Int → Int → Int → Option (Bool)
 | 0, _, _, _, _, _, _, _, _, _, _, _, _, _ => none
 | k + 1, x5, x6, x1324000, x1324001, x1324002, x1324003, x1324004, x1325000, x1325001, x1325002, x1325003, x1325004, x1325005 => if x6 < (x5.length : Int) then (if 0 ≤ x6 then ((spec_l05Apply.f x1325000 x1325001 x1325002 x1325003 x1325004 x1325005 ((rd_T38 x5 x6).f0) ((rd_T38 x5 x6).f1)).bind fun bt1329 => ((spec_l09At.f x1324000 x1324001 x1324002 x1324003 x1324004 bt1329.1 bt1329.2).bind fun t1331 => ((spec_l09At.f x1324000 x1324001 x1324002 x1324003 x1324004 ((rd_T38 x5 x6).f0) ((rd_T38 x5 x6).f1)).bind fun t1333 => (if t1331 = t1333 then (spec_l09Keeps.l0 k x5 (wrap64 (x6 + 1)) x1324000 x1324001 x1324002 x1324003 x1324004 x1325000 x1325001 x1325002 x1325003 x1325004 x1325005) else (some false))))) else (none)) else (some true)
def spec_l09Keeps.f (k : Nat) (a0_0 : Int) (a0_1 : Int) (a0_2 : Int) (a0_3 : Int) (l0_4 : List Int) (a1_0 : Int) (a1_1 : Int) (a1_2 : Int) (a1_3 : Int) (a1_4 : Int) (a1_5 : Int) : Option (Bool) := (spec_l03Cells.f k a0_1 a0_2 a0_3).bind fun t1325 => (spec_l09Keeps.l0 k t1325 0 a0_0 a0_1 a0_2 a0_3 l0_4 a1_0 a1_1 a1_2 a1_3 a1_4 a1_5)
theorem spec_l09Keeps.mono_l : ∀ k, (∀ y0 y1 y2 y3 y4 y5 y6 y7 y8 y9 y10 y11 y12, LeO (spec_l09Keeps.l0 k y0 y1 y2 y3 y4 y5 y6 y7 y8 y9 y10 y11 y12) (spec_l09Keeps.l0 (k + 1) y0 y1 y2 y3 y4 y5 y6 y7 y8 y9 y10 y11 y12))
 | 0 => fun _ _ _ _ _ _ _ _ _ _ _ _ _ r h => by simp [spec_l09Keeps.l0] at h
 | k + 1 => by
  have ih0 := spec_l09Keeps.mono_l k
  ·
   intro y0 y1 y2 y3 y4 y5 y6 y7 y8 y9 y10 y11 y12
   unfold spec_l09Keeps.l0
   repeat' first
   | (with_reducible exact ih0 _ _ _ _ _ _ _ _ _ _ _ _ _)
   | (with_reducible exact spec_l03Cells.mono _ _ _ _)
   | (with_reducible exact LeO.refl _)
   | (with_reducible exact LeO.none _)
   | (with_reducible refine LeO.ite ?_ ?_)
   | (with_reducible refine LeO.bind ?_ (fun _ => ?_))
   | refine LeO.ite ?_ ?_
   | refine LeO.bind ?_ (fun _ => ?_)
theorem spec_l09Keeps.mono : ∀ a0 a1 a2 a3 a4 a5 a6 a7 a8 a9 a10 k, LeO (spec_l09Keeps.f k a0 a1 a2 a3 a4 a5 a6 a7 a8 a9 a10) (spec_l09Keeps.f (k + 1) a0 a1 a2 a3 a4 a5 a6 a7 a8 a9 a10) := by
 intro a0 a1 a2 a3 a4 a5 a6 a7 a8 a9 a10 k
 have ih0 := spec_l09Keeps.mono_l k
 unfold spec_l09Keeps.f
 repeat' first
   | (with_reducible exact ih0 _ _ _ _ _ _ _ _ _ _ _ _ _)
   | (with_reducible exact spec_l03Cells.mono _ _ _ _)
   | (with_reducible exact LeO.refl _)
   | (with_reducible exact LeO.none _)
   | (with_reducible refine LeO.ite ?_ ?_)
   | (with_reducible refine LeO.bind ?_ (fun _ => ?_))
   | refine LeO.ite ?_ ?_
   | refine LeO.bind ?_ (fun _ => ?_)


/-! ### spec_l03Basis: function 162 -/
def spec_l03Basis.f (a0_0 : Int) (a0_1 : Int) (a0_2 : Int) : Option ((List (S38))) := some (([(⟨a0_0, 0⟩ : S38), (⟨a0_1, a0_2⟩ : S38)] : List (S38)))


/-! ### spec_l01Divisor: function 182 -/
def spec_l01Divisor.f : Nat → Int → Int → Option (Int)
 | 0, _, _ => none
 | k + 1, a0, a1 => if a1 = 0 then (some (mx a0 (wrap64 (-a0)))) else ((spec_l01Divisor.f k a1 (Int.tmod a0 a1)).bind fun t357 => (some t357))
theorem spec_l01Divisor.mono_l : ∀ k, (∀ y0 y1, LeO (spec_l01Divisor.f k y0 y1) (spec_l01Divisor.f (k + 1) y0 y1))
 | 0 => fun _ _ r h => by simp [spec_l01Divisor.f] at h
 | k + 1 => by
  have ih0 := spec_l01Divisor.mono_l k
  ·
   intro y0 y1
   unfold spec_l01Divisor.f
   repeat' first
   | (with_reducible exact ih0 _ _)
   | (with_reducible exact LeO.refl _)
   | (with_reducible exact LeO.none _)
   | (with_reducible refine LeO.ite ?_ ?_)
   | (with_reducible refine LeO.bind ?_ (fun _ => ?_))
   | refine LeO.ite ?_ ?_
   | refine LeO.bind ?_ (fun _ => ?_)
theorem spec_l01Divisor.mono : ∀ a0 a1 k, LeO (spec_l01Divisor.f k a0 a1) (spec_l01Divisor.f (k + 1) a0 a1) := by
 intro a0 a1 k
 have ih0 := spec_l01Divisor.mono_l k
 exact ih0 a0 a1


/-! ### spec_l01Scale: function 183 -/
def spec_l01Scale.f (a0_0 : Int) (a0_1 : Int) (a1 : Int) : Option (Int × Int) := some (wrap64 (a1 * a0_0), wrap64 (a1 * a0_1))


/-! ### spec_l03Hermite: function 163 -/
mutual
def spec_l03Hermite.l0 : Nat → List (S38) → Int → Int → Int → Int → Option (Int × Int × Int)
 | 0, _, _, _, _, _ => none
 | k + 1, x0, x4, x5, x362000, x362001 => if x5 < (x0.length : Int) then (if 0 ≤ x5 then (spec_l03Hermite.l1 k x0 x4 x5 x362000 x362001 ((rd_T38 x0 x5).f0) ((rd_T38 x0 x5).f1)) else (none)) else (if x362001 < 0 then ((spec_l01Scale.f x362000 x362001 (-1)).bind fun bt367 => (if x4 > 0 then ((spec_l01Mod.f bt367.1 x4).bind fun t369 => (some (x4, t369, bt367.2))) else (some (x4, bt367.1, bt367.2)))) else (if x4 > 0 then ((spec_l01Mod.f x362000 x4).bind fun t370 => (some (x4, t370, x362001))) else (some (x4, x362000, x362001))))
def spec_l03Hermite.l1 : Nat → List (S38) → Int → Int → Int → Int → Int → Int → Option (Int × Int × Int)
 | 0, _, _, _, _, _, _, _ => none
 | k + 1, x0, x4, x5, x362000, x362001, x364000, x364001 => if x364001 = 0 then ((spec_l01Divisor.f k x4 x364000).bind fun t365 => (if t365 > 0 then ((spec_l01Mod.f x362000 t365).bind fun t366 => (spec_l03Hermite.l0 k x0 t365 (wrap64 (x5 + 1)) t366 x362001)) else (spec_l03Hermite.l0 k x0 t365 (wrap64 (x5 + 1)) x362000 x362001))) else (spec_l03Hermite.l1 k x0 x4 x5 x364000 x364001 (wrap64 (x362000 - (wrap64 ((wrap64 (Int.tdiv x362001 x364001)) * x364000)))) (wrap64 (x362001 - (wrap64 ((wrap64 (Int.tdiv x362001 x364001)) * x364001)))))
end
def spec_l03Hermite.f (k : Nat) (l0 : List (S38)) : Option (Int × Int × Int) := spec_l03Hermite.l0 k l0 0 0 0 0
theorem spec_l03Hermite.mono_l : ∀ k, (∀ y0 y1 y2 y3 y4, LeO (spec_l03Hermite.l0 k y0 y1 y2 y3 y4) (spec_l03Hermite.l0 (k + 1) y0 y1 y2 y3 y4)) ∧ (∀ y0 y1 y2 y3 y4 y5 y6, LeO (spec_l03Hermite.l1 k y0 y1 y2 y3 y4 y5 y6) (spec_l03Hermite.l1 (k + 1) y0 y1 y2 y3 y4 y5 y6))
 | 0 => ⟨fun _ _ _ _ _ r h => by simp [spec_l03Hermite.l0] at h, fun _ _ _ _ _ _ _ r h => by simp [spec_l03Hermite.l1] at h⟩
 | k + 1 => by
  obtain ⟨ih0, ih1⟩ := spec_l03Hermite.mono_l k
  refine ⟨?_, ?_⟩
  ·
   intro y0 y1 y2 y3 y4
   unfold spec_l03Hermite.l0
   repeat' first
   | (with_reducible exact ih0 _ _ _ _ _)
   | (with_reducible exact ih1 _ _ _ _ _ _ _)
   | (with_reducible exact spec_l01Divisor.mono _ _ _)
   | (with_reducible exact LeO.refl _)
   | (with_reducible exact LeO.none _)
   | (with_reducible refine LeO.ite ?_ ?_)
   | (with_reducible refine LeO.bind ?_ (fun _ => ?_))
   | refine LeO.ite ?_ ?_
   | refine LeO.bind ?_ (fun _ => ?_)
  ·
   intro y0 y1 y2 y3 y4 y5 y6
   unfold spec_l03Hermite.l1
   repeat' first
   | (with_reducible exact ih0 _ _ _ _ _)
   | (with_reducible exact ih1 _ _ _ _ _ _ _)
   | (with_reducible exact spec_l01Divisor.mono _ _ _)
   | (with_reducible exact LeO.refl _)
   | (with_reducible exact LeO.none _)
   | (with_reducible refine LeO.ite ?_ ?_)
   | (with_reducible refine LeO.bind ?_ (fun _ => ?_))
   | refine LeO.ite ?_ ?_
   | refine LeO.bind ?_ (fun _ => ?_)
theorem spec_l03Hermite.mono : ∀ a0 k, LeO (spec_l03Hermite.f k a0) (spec_l03Hermite.f (k + 1) a0) := by
 intro a0 k
 obtain ⟨ih0, ih1⟩ := spec_l03Hermite.mono_l k
 unfold spec_l03Hermite.f
 repeat' first
   | (with_reducible exact ih0 _ _ _ _ _)
   | (with_reducible exact ih1 _ _ _ _ _ _ _)
   | (with_reducible exact spec_l01Divisor.mono _ _ _)
   | (with_reducible exact LeO.refl _)
   | (with_reducible exact LeO.none _)
   | (with_reducible refine LeO.ite ?_ ?_)
   | (with_reducible refine LeO.bind ?_ (fun _ => ?_))
   | refine LeO.ite ?_ ?_
   | refine LeO.bind ?_ (fun _ => ?_)


/-! ### spec_l09Full: function 144 -/
def spec_l09Full.l0 : Nat → List (S38) → List (S38) → Int → Int → Int → Int → Int → List Int → Option (Int × Int × Int)
 | 0, _, _, _, _, _, _, _, _ => none
 | k + 1, x3, x4, x5, x1335000, x1335001, x1335002, x1335003, x1335004 => if x5 < (x3.length : Int) then ((spec_l02Unit.f).bind fun bt1345 => (if 0 ≤ x5 then ((spec_l09Keeps.f k x1335000 x1335001 x1335002 x1335003 x1335004 bt1345.1 bt1345.2.1 bt1345.2.2.1 bt1345.2.2.2 ((rd_T38 x3 x5).f0) ((rd_T38 x3 x5).f1)).bind fun t1350 => (if t1350 = true then (if x4.length < 8796093022208 then (spec_l09Full.l0 k x3 (x4 ++ [(⟨(rd_T38 x3 x5).f0, (rd_T38 x3 x5).f1⟩ : S38)]) (wrap64 (x5 + 1)) x1335000 x1335001 x1335002 x1335003 x1335004) else (none)) else (spec_l09Full.l0 k x3 x4 (wrap64 (x5 + 1)) x1335000 x1335001 x1335002 x1335003 x1335004))) else (none))) else ((spec_l03Hermite.f k x4).bind fun bt1342 => (some (bt1342.1, bt1342.2.1, bt1342.2.2)))
def spec_l09Full.f (k : Nat) (a0_0 : Int) (a0_1 : Int) (a0_2 : Int) (a0_3 : Int) (l0_4 : List Int) : Option (Int × Int × Int) := (spec_l03Cells.f k a0_1 a0_2 a0_3).bind fun t1336 => ((spec_l03Basis.f a0_1 a0_2 a0_3).bind fun t1339 => (spec_l09Full.l0 k t1336 t1339 0 a0_0 a0_1 a0_2 a0_3 l0_4))
theorem spec_l09Full.mono_l : ∀ k, (∀ y0 y1 y2 y3 y4 y5 y6 y7, LeO (spec_l09Full.l0 k y0 y1 y2 y3 y4 y5 y6 y7) (spec_l09Full.l0 (k + 1) y0 y1 y2 y3 y4 y5 y6 y7))
 | 0 => fun _ _ _ _ _ _ _ _ r h => by simp [spec_l09Full.l0] at h
 | k + 1 => by
  have ih0 := spec_l09Full.mono_l k
  ·
   intro y0 y1 y2 y3 y4 y5 y6 y7
   unfold spec_l09Full.l0
   repeat' first
   | (with_reducible exact ih0 _ _ _ _ _ _ _ _)
   | (with_reducible exact spec_l03Cells.mono _ _ _ _)
   | (with_reducible exact spec_l03Hermite.mono _ _)
   | (with_reducible exact spec_l09Keeps.mono _ _ _ _ _ _ _ _ _ _ _ _)
   | (with_reducible exact LeO.refl _)
   | (with_reducible exact LeO.none _)
   | (with_reducible refine LeO.ite ?_ ?_)
   | (with_reducible refine LeO.bind ?_ (fun _ => ?_))
   | refine LeO.ite ?_ ?_
   | refine LeO.bind ?_ (fun _ => ?_)
theorem spec_l09Full.mono : ∀ a0 a1 a2 a3 a4 k, LeO (spec_l09Full.f k a0 a1 a2 a3 a4) (spec_l09Full.f (k + 1) a0 a1 a2 a3 a4) := by
 intro a0 a1 a2 a3 a4 k
 have ih0 := spec_l09Full.mono_l k
 unfold spec_l09Full.f
 repeat' first
   | (with_reducible exact ih0 _ _ _ _ _ _ _ _)
   | (with_reducible exact spec_l03Cells.mono _ _ _ _)
   | (with_reducible exact spec_l03Hermite.mono _ _)
   | (with_reducible exact spec_l09Keeps.mono _ _ _ _ _ _ _ _ _ _ _ _)
   | (with_reducible exact LeO.refl _)
   | (with_reducible exact LeO.none _)
   | (with_reducible refine LeO.ite ?_ ?_)
   | (with_reducible refine LeO.bind ?_ (fun _ => ?_))
   | refine LeO.ite ?_ ?_
   | refine LeO.bind ?_ (fun _ => ?_)


/-! ### spec_l24Code: function 105 -/
def spec_l24Code.j0 : Nat → Bool → Bool → Int → Int → Int → Int → List Int → Option (Int × Int × Int × Int)
 | 0, _, _, _, _, _, _, _ => none
 | k + 1, x1, x13, x1558000, x1558001, x1558002, x1558003, x1558004 => if x13 = true then (some (0, 0, 0, 1)) else (if x1 = true then ((spec_l09Full.f k x1558000 x1558001 x1558002 x1558003 x1558004).bind fun bt1560 => (some (bt1560.1, bt1560.2.1, bt1560.2.2, 0))) else (some (0, 0, 0, 2)))
def spec_l24Code.f (k : Nat) (a0_0 : Int) (a0_1 : Int) (a0_2 : Int) (a0_3 : Int) (l0_4 : List Int) (a1 : Bool) : Option (Int × Int × Int × Int) := (spec_IsPattern.f k a0_0 a0_1 a0_2 a0_3 l0_4).bind fun t1559 => (if t1559 = true then (spec_l24Code.j0 k a1 (a0_0 != 0) a0_0 a0_1 a0_2 a0_3 l0_4) else (spec_l24Code.j0 k a1 true a0_0 a0_1 a0_2 a0_3 l0_4))
theorem spec_l24Code.mono_l : ∀ k, (∀ y0 y1 y2 y3 y4 y5 y6, LeO (spec_l24Code.j0 k y0 y1 y2 y3 y4 y5 y6) (spec_l24Code.j0 (k + 1) y0 y1 y2 y3 y4 y5 y6))
 | 0 => fun _ _ _ _ _ _ _ r h => by simp [spec_l24Code.j0] at h
 | k + 1 => by
  have ih0 := spec_l24Code.mono_l k
  ·
   intro y0 y1 y2 y3 y4 y5 y6
   unfold spec_l24Code.j0
   repeat' first
   | (with_reducible exact ih0 _ _ _ _ _ _ _)
   | (with_reducible exact spec_IsPattern.mono _ _ _ _ _ _)
   | (with_reducible exact spec_l09Full.mono _ _ _ _ _ _)
   | (with_reducible exact LeO.refl _)
   | (with_reducible exact LeO.none _)
   | (with_reducible refine LeO.ite ?_ ?_)
   | (with_reducible refine LeO.bind ?_ (fun _ => ?_))
   | refine LeO.ite ?_ ?_
   | refine LeO.bind ?_ (fun _ => ?_)
theorem spec_l24Code.mono : ∀ a0 a1 a2 a3 a4 a5 k, LeO (spec_l24Code.f k a0 a1 a2 a3 a4 a5) (spec_l24Code.f (k + 1) a0 a1 a2 a3 a4 a5) := by
 intro a0 a1 a2 a3 a4 a5 k
 have ih0 := spec_l24Code.mono_l k
 unfold spec_l24Code.f
 repeat' first
   | (with_reducible exact ih0 _ _ _ _ _ _ _)
   | (with_reducible exact spec_IsPattern.mono _ _ _ _ _ _)
   | (with_reducible exact spec_l09Full.mono _ _ _ _ _ _)
   | (with_reducible exact LeO.refl _)
   | (with_reducible exact LeO.none _)
   | (with_reducible refine LeO.ite ?_ ?_)
   | (with_reducible refine LeO.bind ?_ (fun _ => ?_))
   | refine LeO.ite ?_ ?_
   | refine LeO.bind ?_ (fun _ => ?_)


theorem eqA38 (d : Nat) (w : World) (x0 y0 : Int) (x1 y1 : Int) :
  (Op.equalIn (d + 2) 38 (.agg #[.int .i64 x0, .int .i64 x1]) (.agg #[.int .i64 y0, .int .i64 y1])).run Try.prog w = .ok (x0 == y0 && (x1 == y1)) w := by
 refine eqA_of Try.underlying38 (by kernel_rfl) ?_
 refine eqf_cons (by rfl) (by go_simp; rfl) (by go_simp; rfl) (by go_simp) ?_
 exact eqf_last (by rfl) (by go_simp; rfl) (by go_simp; rfl) (by go_simp)

attribute [local go_sem high] eqA38
/-! ### spec_l03Has: function 153 -/
def spec_l03Has.f (a0_0 : Int) (a0_1 : Int) (a0_2 : Int) (a1_0 : Int) (a1_1 : Int) : Option (Bool) := (spec_l03Reduce.f a0_0 a0_1 a0_2 a1_0 a1_1).bind fun bt1565 => (some (bt1565.1 == 0 && (bt1565.2 == 0)))


/-! ### spec_l24Repeat: function 106 -/
def spec_l24Repeat.l0 : Nat → Int → Int → Int → Int → Option (Int)
 | 0, _, _, _, _ => none
 | k + 1, x3, x1568000, x1568001, x1568002 => (spec_l03Has.f x1568000 x1568001 x1568002 0 x3).bind fun t1568 => (if t1568 = true then (some x3) else (spec_l24Repeat.l0 k (wrap64 (x3 + 1)) x1568000 x1568001 x1568002))
def spec_l24Repeat.f (k : Nat) (a0_0 : Int) (a0_1 : Int) (a0_2 : Int) : Option (Int) := spec_l24Repeat.l0 k 1 a0_0 a0_1 a0_2
theorem spec_l24Repeat.mono_l : ∀ k, (∀ y0 y1 y2 y3, LeO (spec_l24Repeat.l0 k y0 y1 y2 y3) (spec_l24Repeat.l0 (k + 1) y0 y1 y2 y3))
 | 0 => fun _ _ _ _ r h => by simp [spec_l24Repeat.l0] at h
 | k + 1 => by
  have ih0 := spec_l24Repeat.mono_l k
  ·
   intro y0 y1 y2 y3
   unfold spec_l24Repeat.l0
   repeat' first
   | (with_reducible exact ih0 _ _ _ _)
   | (with_reducible exact LeO.refl _)
   | (with_reducible exact LeO.none _)
   | (with_reducible refine LeO.ite ?_ ?_)
   | (with_reducible refine LeO.bind ?_ (fun _ => ?_))
   | refine LeO.ite ?_ ?_
   | refine LeO.bind ?_ (fun _ => ?_)
theorem spec_l24Repeat.mono : ∀ a0 a1 a2 k, LeO (spec_l24Repeat.f k a0 a1 a2) (spec_l24Repeat.f (k + 1) a0 a1 a2) := by
 intro a0 a1 a2 k
 have ih0 := spec_l24Repeat.mono_l k
 unfold spec_l24Repeat.f
 repeat' first
   | (with_reducible exact ih0 _ _ _ _)
   | (with_reducible exact LeO.refl _)
   | (with_reducible exact LeO.none _)
   | (with_reducible refine LeO.ite ?_ ?_)
   | (with_reducible refine LeO.bind ?_ (fun _ => ?_))
   | refine LeO.ite ?_ ?_
   | refine LeO.bind ?_ (fun _ => ?_)


/-! ### spec_l24Drop: function 110 -/
def spec_l24Drop.l0 : Nat → Int → Int → Int → Int → Int → Int → Option (Int × Bool)
 | 0, _, _, _, _, _, _ => none
 | k + 1, x1, x6, x7, x1680000, x1680001, x1680002 => if x7 < x6 then ((spec_l03Has.f x1680000 x1680001 x1680002 x1 (wrap64 (-x7))).bind fun t1681 => (if t1681 = true then (some (x7, true)) else (spec_l24Drop.l0 k x1 x6 (wrap64 (x7 + 1)) x1680000 x1680001 x1680002))) else (some (0, false))
def spec_l24Drop.f (k : Nat) (a0_0 : Int) (a0_1 : Int) (a0_2 : Int) (a1 : Int) : Option (Int × Bool) := (spec_l24Repeat.f k a0_0 a0_1 a0_2).bind fun t1680 => (spec_l24Drop.l0 k a1 t1680 0 a0_0 a0_1 a0_2)
theorem spec_l24Drop.mono_l : ∀ k, (∀ y0 y1 y2 y3 y4 y5, LeO (spec_l24Drop.l0 k y0 y1 y2 y3 y4 y5) (spec_l24Drop.l0 (k + 1) y0 y1 y2 y3 y4 y5))
 | 0 => fun _ _ _ _ _ _ r h => by simp [spec_l24Drop.l0] at h
 | k + 1 => by
  have ih0 := spec_l24Drop.mono_l k
  ·
   intro y0 y1 y2 y3 y4 y5
   unfold spec_l24Drop.l0
   repeat' first
   | (with_reducible exact ih0 _ _ _ _ _ _)
   | (with_reducible exact spec_l24Repeat.mono _ _ _ _)
   | (with_reducible exact LeO.refl _)
   | (with_reducible exact LeO.none _)
   | (with_reducible refine LeO.ite ?_ ?_)
   | (with_reducible refine LeO.bind ?_ (fun _ => ?_))
   | refine LeO.ite ?_ ?_
   | refine LeO.bind ?_ (fun _ => ?_)
theorem spec_l24Drop.mono : ∀ a0 a1 a2 a3 k, LeO (spec_l24Drop.f k a0 a1 a2 a3) (spec_l24Drop.f (k + 1) a0 a1 a2 a3) := by
 intro a0 a1 a2 a3 k
 have ih0 := spec_l24Drop.mono_l k
 unfold spec_l24Drop.f
 repeat' first
   | (with_reducible exact ih0 _ _ _ _ _ _)
   | (with_reducible exact spec_l24Repeat.mono _ _ _ _)
   | (with_reducible exact LeO.refl _)
   | (with_reducible exact LeO.none _)
   | (with_reducible refine LeO.ite ?_ ?_)
   | (with_reducible refine LeO.bind ?_ (fun _ => ?_))
   | refine LeO.ite ?_ ?_
   | refine LeO.bind ?_ (fun _ => ?_)


/-! ### spec_DropOf: function 52 -/
def spec_DropOf.f (k : Nat) (a0_0 : Int) (a0_1 : Int) (a0_2 : Int) (a0_3 : Int) (l0_4 : List Int) (a1 : Int) : Option (Int × Int) := (spec_l01In.f a1 1 1000).bind fun t1733 => ((spec_l24Code.f k a0_0 a0_1 a0_2 a0_3 l0_4 t1733).bind fun bt1734 => (if bt1734.2.2.2 = 0 then ((spec_l24Drop.f k bt1734.1 bt1734.2.1 bt1734.2.2.1 a1).bind fun bt1739 => (if bt1739.2 = true then (some (bt1739.1, 0)) else (some (0, 4)))) else (some (0, bt1734.2.2.2))))
theorem spec_DropOf.mono : ∀ a0 a1 a2 a3 a4 a5 k, LeO (spec_DropOf.f k a0 a1 a2 a3 a4 a5) (spec_DropOf.f (k + 1) a0 a1 a2 a3 a4 a5) := by
 intro a0 a1 a2 a3 a4 a5 k
 unfold spec_DropOf.f
 repeat' first
   | (with_reducible exact spec_l24Code.mono _ _ _ _ _ _ _)
   | (with_reducible exact spec_l24Drop.mono _ _ _ _ _)
   | (with_reducible exact LeO.refl _)
   | (with_reducible exact LeO.none _)
   | (with_reducible refine LeO.ite ?_ ?_)
   | (with_reducible refine LeO.bind ?_ (fun _ => ?_))
   | refine LeO.ite ?_ ?_
   | refine LeO.bind ?_ (fun _ => ?_)


/-! ### base: function 999999 -/
theorem enters_of {P : Program} {f : FuncId} {fn : Func} {c : Code} (hf : P.funcs[f]? = some fn) (hname : (fn.name == "runtime.NumGoroutine") = false) (hb : fn.body = some c) (args : Array Value) (w : World) : (callFunc f args).run P w = .ok (.enter f args) w := by
 have h1 : fn.name ≠ "runtime.NumGoroutine" := by simpa using hname
 simp [callFunc, hf, h1, hb, mark]
/-- where p first holds -/
def fidx {α : Type} (p : α → Bool) (xs : List α) : Int := match xs.findIdx? p with | some i => (i : Int) | none => -1
theorem fidx_hit {α : Type} (p : α → Bool) (xs : List α) (d : α) (k : Nat) (hk : k < xs.length) (h : ∀ j, j < k → p (xs.getD j d) = false) (hp : p (xs.getD k d) = true) : fidx p xs = (k : Int) := by
 have e : xs.findIdx? p = some k := by
  rw [List.findIdx?_eq_some_iff_getElem]
  refine ⟨hk, ?_, fun j hj => ?_⟩
  ·
   simpa [List.getD_eq_getElem?_getD, List.getElem?_eq_getElem hk] using hp
  ·
   have := h j hj
   simpa [List.getD_eq_getElem?_getD, List.getElem?_eq_getElem (show j < xs.length by omega)] using this
 unfold fidx
 rw [e]
theorem fidx_miss {α : Type} (p : α → Bool) (xs : List α) (d : α) (h : ∀ j, j < xs.length → p (xs.getD j d) = false) : fidx p xs = -1 := by
 have e : xs.findIdx? p = none := by
  rw [List.findIdx?_eq_none_iff]
  intro x hx
  obtain ⟨j, hj, rfl⟩ := List.mem_iff_getElem.1 hx
  have := h j hj
  simpa [List.getD_eq_getElem?_getD, List.getElem?_eq_getElem hj] using this
 unfold fidx
 rw [e]
theorem fidx_nonneg {α : Type} (p : α → Bool) (xs : List α) : decide (0 ≤ fidx p xs) = xs.any p := by
 unfold fidx
 cases e : xs.findIdx? p with
 | none =>
  rw [List.findIdx?_eq_none_iff] at e
  have : xs.any p = false := by rw [List.any_eq_false]; intro x hx; simp [e x hx]
  rw [this]
  rfl
 | some i =>
  rw [List.findIdx?_eq_some_iff_getElem] at e
  obtain ⟨h, hp, _⟩ := e
  have : xs.any p = true := List.any_eq_true.2 ⟨xs[i], List.getElem_mem h, hp⟩
  rw [this]
  simp

/-! ### base: function 999999 -/
/-! What a function with rounds comes to, whatever the rounds: its limit. -/
def Mono {α : Type} (g : Nat → Option α) : Prop := ∀ k, LeO (g k) (g (k + 1))
def Lim {α : Type} (g : Nat → Option α) (v : Option α) : Prop := Mono g ∧ ∀ r, v = some r ↔ ∃ k, g k = some r
open Classical in
noncomputable def lim {α : Type} (g : Nat → Option α) : Option α := if h : ∃ k r, g k = some r then g h.choose else none
theorem Mono.le {α : Type} {g : Nat → Option α} (hm : Mono g) {j k : Nat} (h : j ≤ k) {r : α} (hr : g j = some r) : g k = some r := at_rounds hm h hr
theorem lim_Lim {α : Type} {g : Nat → Option α} (hm : Mono g) : Lim g (lim g) := by
 refine ⟨hm, fun r => ?_⟩
 unfold lim
 split
 ·
  rename_i h
  obtain ⟨q, hq⟩ := h.choose_spec
  rw [hq]
  constructor
  ·
   intro e; exact ⟨_, hq.trans e⟩
  ·
   rintro ⟨k, hk⟩
   have h1 := hm.le (Nat.le_max_left h.choose k) hq
   have h2 := hm.le (Nat.le_max_right h.choose k) hk
   rw [← h1, h2]
 ·
  rename_i h
  constructor
  ·
   intro e; cases e
  ·
   rintro ⟨k, hk⟩; exact absurd ⟨k, r, hk⟩ h
theorem Lim.uniq {α : Type} {g : Nat → Option α} {v w : Option α} (h : Lim g v) (h' : Lim g w) : v = w := by
 cases v with
 | some r => exact ((h'.2 r).2 ((h.2 r).1 rfl)).symm
 | none =>
  cases w with
  | none => rfl
  | some r => exact (h.2 r).2 ((h'.2 r).1 rfl)
theorem Lim.const {α : Type} (v : Option α) : Lim (fun _ => v) v := ⟨fun _ => LeO.refl _, fun r => ⟨fun h => ⟨0, h⟩, fun ⟨_, h⟩ => h⟩⟩
theorem Lim.ite {α : Type} {c : Prop} [Decidable c] {g f : Nat → Option α} {v w : Option α} (h : Lim g v) (h' : Lim f w) : Lim (fun k => if c then g k else f k) (if c then v else w) := by
 by_cases hc : c
 ·
  simp only [if_pos hc]; exact h
 ·
  simp only [if_neg hc]; exact h'
theorem Lim.bind {α β : Type} {g : Nat → Option α} {f : Nat → α → Option β} {v : Option α} {w : α → Option β} (h : Lim g v) (h' : ∀ x, Lim (fun k => f k x) (w x)) : Lim (fun k => (g k).bind (f k)) (v.bind w) := by
 refine ⟨fun k => LeO.bind (h.1 k) (fun x => (h' x).1 k), fun r => ?_⟩
 rw [Option.bind_eq_some_iff]
 constructor
 ·
  rintro ⟨x, hx, hr⟩
  obtain ⟨k, hk⟩ := (h.2 x).1 hx
  obtain ⟨j, hj⟩ := ((h' x).2 r).1 hr
  refine ⟨max k j, ?_⟩
  show (g (max k j)).bind (f (max k j)) = some r
  rw [h.1.le (Nat.le_max_left k j) hk]
  exact (h' x).1.le (Nat.le_max_right k j) hj
 ·
  rintro ⟨k, hk⟩
  obtain ⟨x, hx, hr⟩ := Option.bind_eq_some_iff.1 hk
  exact ⟨x, (h.2 x).2 ⟨k, hx⟩, ((h' x).2 r).2 ⟨k, hr⟩⟩
theorem lim_step {α : Type} {g f : Nat → Option α} {v : Option α} (hm : Mono g) (h : ∀ k, g (k + 1) = f k) (hf : Lim f v) : lim g = v := by
 refine (lim_Lim hm).uniq ⟨hm, fun r => ?_⟩
 rw [hf.2 r]
 constructor
 ·
  rintro ⟨k, hk⟩; exact ⟨k + 1, (h k).trans hk⟩
 ·
  rintro ⟨k, hk⟩; exact ⟨k, (h k).symm.trans (hm k r hk)⟩
theorem lim_now {α : Type} {g f : Nat → Option α} {v : Option α} (h : ∀ k, g k = f k) (hf : Lim f v) : lim g = v := by
 have e : g = f := funext h
 subst e
 exact (lim_Lim hf.1).uniq hf
theorem lim_some {α : Type} {g : Nat → Option α} (hm : Mono g) {r : α} (h : lim g = some r) : ∃ k, g k = some r := ((lim_Lim hm).2 r).1 h


/-! ### impl_allWithin: function 65 -/
def impl_allWithin.f (l0 : List Int) (a1 : Int) (a2 : Int) : Option (Bool) := some (l0.all fun n => decide (a1 ≤ n) && decide (n ≤ a2))


/-! ### impl_Lattice_index: function 97 -/
def impl_Lattice_index.f (a0_0 : Int) (a0_1 : Int) (a0_2 : Int) : Option (Int) := some (wrap64 (a0_0 * a0_2))


/-! ### impl_within: function 114 -/
def impl_within.f (a0 : Int) (a1 : Int) (a2 : Int) : Option (Bool) := if a0 ≥ a1 then (some (decide (a0 ≤ a2))) else (some false)


/-! ### impl_IsFrame: function 118 -/
def impl_IsFrame.f (a0 : Int) : Option (Bool) := (impl_within.f a0 0 1).bind fun t199 => (some t199)


/-! ### impl_IsLattice: function 119 -/
def impl_IsLattice.f (a0_0 : Int) (a0_1 : Int) (a0_2 : Int) : Option (Bool) := (impl_within.f a0_0 1 64).bind fun t201 => (if t201 = true then ((impl_within.f a0_2 1 64).bind fun t202 => (if t202 = true then ((impl_within.f a0_1 0 (wrap64 (a0_0 - 1))).bind fun t203 => (if t203 = true then ((impl_Lattice_index.f a0_0 a0_1 a0_2).bind fun t204 => (some (decide (t204 ≤ 64)))) else (some false))) else (some false))) else (some false))


/-! ### impl_IsPattern: function 64 -/
def impl_IsPattern.f (a0_0 : Int) (a0_1 : Int) (a0_2 : Int) (a0_3 : Int) (l0_4 : List Int) : Option (Bool) := (impl_IsFrame.f a0_0).bind fun t206 => (if t206 = true then ((impl_IsLattice.f a0_1 a0_2 a0_3).bind fun t207 => (if t207 = true then ((impl_Lattice_index.f a0_1 a0_2 a0_3).bind fun t208 => (if (l0_4.length : Int) = t208 then ((impl_allWithin.f l0_4 0 9).bind fun t209 => (some t209)) else (some false))) else (some false))) else (some false))


/-! ### impl_Lattice_cells: function 66 -/
mutual
def impl_Lattice_cells.l0 : Nat → List (S38) → Int → Int → Int → Int → Int → Option ((List (S38)))
 | 0, _, _, _, _, _, _ => none
 | k + 1, x3, x8, x9, x211000, x211001, x211002 => if x9 < x8 then (impl_Lattice_cells.l1 k x3 x9 x8 x9 x211002 0 x211000 x211001 x211002) else (some x3)
def impl_Lattice_cells.l1 : Nat → List (S38) → Int → Int → Int → Int → Int → Int → Int → Int → Option ((List (S38)))
 | 0, _, _, _, _, _, _, _, _, _ => none
 | k + 1, x3, x4, x8, x9, x13, x14, x211000, x211001, x211002 => if x14 < x13 then (if x3.length < 8796093022208 then (impl_Lattice_cells.l1 k (x3 ++ [(⟨x4, x14⟩ : S38)]) x4 x8 x9 x13 (wrap64 (x14 + 1)) x211000 x211001 x211002) else (none)) else (impl_Lattice_cells.l0 k x3 x8 (wrap64 (x9 + 1)) x211000 x211001 x211002)
end
def impl_Lattice_cells.f (k : Nat) (a0_0 : Int) (a0_1 : Int) (a0_2 : Int) : Option ((List (S38))) := impl_Lattice_cells.l0 k (([] : List (S38))) a0_0 0 a0_0 a0_1 a0_2
theorem impl_Lattice_cells.mono_l : ∀ k, (∀ y0 y1 y2 y3 y4 y5, LeO (impl_Lattice_cells.l0 k y0 y1 y2 y3 y4 y5) (impl_Lattice_cells.l0 (k + 1) y0 y1 y2 y3 y4 y5)) ∧ (∀ y0 y1 y2 y3 y4 y5 y6 y7 y8, LeO (impl_Lattice_cells.l1 k y0 y1 y2 y3 y4 y5 y6 y7 y8) (impl_Lattice_cells.l1 (k + 1) y0 y1 y2 y3 y4 y5 y6 y7 y8))
 | 0 => ⟨fun _ _ _ _ _ _ r h => by simp [impl_Lattice_cells.l0] at h, fun _ _ _ _ _ _ _ _ _ r h => by simp [impl_Lattice_cells.l1] at h⟩
 | k + 1 => by
  obtain ⟨ih0, ih1⟩ := impl_Lattice_cells.mono_l k
  refine ⟨?_, ?_⟩
  ·
   intro y0 y1 y2 y3 y4 y5
   unfold impl_Lattice_cells.l0
   repeat' first
   | (with_reducible exact ih0 _ _ _ _ _ _)
   | (with_reducible exact ih1 _ _ _ _ _ _ _ _ _)
   | (with_reducible exact LeO.refl _)
   | (with_reducible exact LeO.none _)
   | (with_reducible refine LeO.ite ?_ ?_)
   | (with_reducible refine LeO.bind ?_ (fun _ => ?_))
   | refine LeO.ite ?_ ?_
   | refine LeO.bind ?_ (fun _ => ?_)
  ·
   intro y0 y1 y2 y3 y4 y5 y6 y7 y8
   unfold impl_Lattice_cells.l1
   repeat' first
   | (with_reducible exact ih0 _ _ _ _ _ _)
   | (with_reducible exact ih1 _ _ _ _ _ _ _ _ _)
   | (with_reducible exact LeO.refl _)
   | (with_reducible exact LeO.none _)
   | (with_reducible refine LeO.ite ?_ ?_)
   | (with_reducible refine LeO.bind ?_ (fun _ => ?_))
   | refine LeO.ite ?_ ?_
   | refine LeO.bind ?_ (fun _ => ?_)
theorem impl_Lattice_cells.mono : ∀ a0 a1 a2 k, LeO (impl_Lattice_cells.f k a0 a1 a2) (impl_Lattice_cells.f (k + 1) a0 a1 a2) := by
 intro a0 a1 a2 k
 obtain ⟨ih0, ih1⟩ := impl_Lattice_cells.mono_l k
 unfold impl_Lattice_cells.f
 repeat' first
   | (with_reducible exact ih0 _ _ _ _ _ _)
   | (with_reducible exact ih1 _ _ _ _ _ _ _ _ _)
   | (with_reducible exact LeO.refl _)
   | (with_reducible exact LeO.none _)
   | (with_reducible refine LeO.ite ?_ ?_)
   | (with_reducible refine LeO.bind ?_ (fun _ => ?_))
   | refine LeO.ite ?_ ?_
   | refine LeO.bind ?_ (fun _ => ?_)


/-! ### impl_unit: function 81 -/
def impl_unit.f  : Option (Int × Int × Int × Int) := some (1, 0, 0, 1)


/-! ### impl_Lattice_basis: function 129 -/
def impl_Lattice_basis.f (a0_0 : Int) (a0_1 : Int) (a0_2 : Int) : Option (Int × Int × Int × Int) := some (a0_0, 0, a0_1, a0_2)


/-! ### impl_Vec_add: function 122 -/
def impl_Vec_add.f (a0_0 : Int) (a0_1 : Int) (a1_0 : Int) (a1_1 : Int) : Option (Int × Int) := some (wrap64 (a0_0 + a1_0), wrap64 (a0_1 + a1_1))


/-! ### impl_mod: function 157 -/
def impl_mod.f (a0 : Int) (a1 : Int) : Option (Int) := if a1 = 0 then (none) else (some (Int.tmod (wrap64 ((Int.tmod a0 a1) + a1)) a1))


/-! ### impl_Vec_times: function 165 -/
def impl_Vec_times.f (a0_0 : Int) (a0_1 : Int) (a1 : Int) : Option (Int × Int) := some (wrap64 (a1 * a0_0), wrap64 (a1 * a0_1))


/-! ### impl_gcd: function 166 -/
def impl_gcd.l0 : Nat → Int → Int → Option (Int)
 | 0, _, _ => none
 | k + 1, x0, x1 => if x1 = 0 then (some (mx x0 (wrap64 (-x0)))) else (impl_gcd.l0 k x1 (Int.tmod x0 x1))
def impl_gcd.f (k : Nat) (a0 : Int) (a1 : Int) : Option (Int) := impl_gcd.l0 k a0 a1
theorem impl_gcd.mono_l : ∀ k, (∀ y0 y1, LeO (impl_gcd.l0 k y0 y1) (impl_gcd.l0 (k + 1) y0 y1))
 | 0 => fun _ _ r h => by simp [impl_gcd.l0] at h
 | k + 1 => by
  have ih0 := impl_gcd.mono_l k
  ·
   intro y0 y1
   unfold impl_gcd.l0
   repeat' first
   | (with_reducible exact ih0 _ _)
   | (with_reducible exact LeO.refl _)
   | (with_reducible exact LeO.none _)
   | (with_reducible refine LeO.ite ?_ ?_)
   | (with_reducible refine LeO.bind ?_ (fun _ => ?_))
   | refine LeO.ite ?_ ?_
   | refine LeO.bind ?_ (fun _ => ?_)
theorem impl_gcd.mono : ∀ a0 a1 k, LeO (impl_gcd.f k a0 a1) (impl_gcd.f (k + 1) a0 a1) := by
 intro a0 a1 k
 have ih0 := impl_gcd.mono_l k
 unfold impl_gcd.f
 repeat' first
   | (with_reducible exact ih0 _ _)
   | (with_reducible exact LeO.refl _)
   | (with_reducible exact LeO.none _)
   | (with_reducible refine LeO.ite ?_ ?_)
   | (with_reducible refine LeO.bind ?_ (fun _ => ?_))
   | refine LeO.ite ?_ ?_
   | refine LeO.bind ?_ (fun _ => ?_)


/-! ### impl_latticeOf: function 130 -/
mutual
def impl_latticeOf.l0 : Nat → Int → List (S38) → Int → Int → Int → Int → Option (Int × Int × Int)
 | 0, _, _, _, _, _, _ => none
 | k + 1, x3, x9, x10, x11, x453000, x453001 => if x11 < x10 then (if 0 ≤ x11 then (if x11 < (x9.length : Int) then (impl_latticeOf.l1 k x3 x9 x10 x11 x453000 x453001 ((rd_T38 x9 x11).f0) ((rd_T38 x9 x11).f1)) else (none)) else (none)) else (if x453001 < 0 then ((impl_Vec_times.f x453000 x453001 (-1)).bind fun bt460 => ((impl_mod.f bt460.1 x3).bind fun t462 => (some (x3, t462, bt460.2)))) else ((impl_mod.f x453000 x3).bind fun t463 => (some (x3, t463, x453001))))
def impl_latticeOf.l1 : Nat → Int → List (S38) → Int → Int → Int → Int → Int → Int → Option (Int × Int × Int)
 | 0, _, _, _, _, _, _, _, _ => none
 | k + 1, x3, x9, x10, x11, x453000, x453001, x455000, x455001 => if x455001 = 0 then ((impl_gcd.f k x3 x455000).bind fun t455 => (impl_latticeOf.l0 k t455 x9 x10 (wrap64 (x11 + 1)) x453000 x453001)) else ((impl_Vec_times.f x455000 x455001 (wrap64 (-(wrap64 (Int.tdiv x453001 x455001))))).bind fun bt456 => ((impl_Vec_add.f x453000 x453001 bt456.1 bt456.2).bind fun bt458 => (impl_latticeOf.l1 k x3 x9 x10 x11 x455000 x455001 bt458.1 bt458.2)))
end
def impl_latticeOf.f (k : Nat) (l0 : List (S38)) : Option (Int × Int × Int) := impl_latticeOf.l0 k 0 l0 (l0.length : Int) 0 0 0
theorem impl_latticeOf.mono_l : ∀ k, (∀ y0 y1 y2 y3 y4 y5, LeO (impl_latticeOf.l0 k y0 y1 y2 y3 y4 y5) (impl_latticeOf.l0 (k + 1) y0 y1 y2 y3 y4 y5)) ∧ (∀ y0 y1 y2 y3 y4 y5 y6 y7, LeO (impl_latticeOf.l1 k y0 y1 y2 y3 y4 y5 y6 y7) (impl_latticeOf.l1 (k + 1) y0 y1 y2 y3 y4 y5 y6 y7))
 | 0 => ⟨fun _ _ _ _ _ _ r h => by simp [impl_latticeOf.l0] at h, fun _ _ _ _ _ _ _ _ r h => by simp [impl_latticeOf.l1] at h⟩
 | k + 1 => by
  obtain ⟨ih0, ih1⟩ := impl_latticeOf.mono_l k
  refine ⟨?_, ?_⟩
  ·
   intro y0 y1 y2 y3 y4 y5
   unfold impl_latticeOf.l0
   repeat' first
   | (with_reducible exact ih0 _ _ _ _ _ _)
   | (with_reducible exact ih1 _ _ _ _ _ _ _ _)
   | (with_reducible exact impl_gcd.mono _ _ _)
   | (with_reducible exact LeO.refl _)
   | (with_reducible exact LeO.none _)
   | (with_reducible refine LeO.ite ?_ ?_)
   | (with_reducible refine LeO.bind ?_ (fun _ => ?_))
   | refine LeO.ite ?_ ?_
   | refine LeO.bind ?_ (fun _ => ?_)
  ·
   intro y0 y1 y2 y3 y4 y5 y6 y7
   unfold impl_latticeOf.l1
   repeat' first
   | (with_reducible exact ih0 _ _ _ _ _ _)
   | (with_reducible exact ih1 _ _ _ _ _ _ _ _)
   | (with_reducible exact impl_gcd.mono _ _ _)
   | (with_reducible exact LeO.refl _)
   | (with_reducible exact LeO.none _)
   | (with_reducible refine LeO.ite ?_ ?_)
   | (with_reducible refine LeO.bind ?_ (fun _ => ?_))
   | refine LeO.ite ?_ ?_
   | refine LeO.bind ?_ (fun _ => ?_)
theorem impl_latticeOf.mono : ∀ a0 k, LeO (impl_latticeOf.f k a0) (impl_latticeOf.f (k + 1) a0) := by
 intro a0 k
 obtain ⟨ih0, ih1⟩ := impl_latticeOf.mono_l k
 unfold impl_latticeOf.f
 repeat' first
   | (with_reducible exact ih0 _ _ _ _ _ _)
   | (with_reducible exact ih1 _ _ _ _ _ _ _ _)
   | (with_reducible exact impl_gcd.mono _ _ _)
   | (with_reducible exact LeO.refl _)
   | (with_reducible exact LeO.none _)
   | (with_reducible refine LeO.ite ?_ ?_)
   | (with_reducible refine LeO.bind ?_ (fun _ => ?_))
   | refine LeO.ite ?_ ?_
   | refine LeO.bind ?_ (fun _ => ?_)


/-! ### impl_Lattice_number: function 123 -/
def impl_Lattice_number.f (a0_0 : Int) (a0_1 : Int) (a0_2 : Int) (a1_0 : Int) (a1_1 : Int) : Option (Int) := some (wrap64 ((wrap64 (a1_0 * a0_2)) + a1_1))


/-! ### impl_Lattice_reduce: function 124 -/
def impl_Lattice_reduce.f (a0_0 : Int) (a0_1 : Int) (a0_2 : Int) (a1_0 : Int) (a1_1 : Int) : Option (Int × Int) := (impl_mod.f a1_1 a0_2).bind fun t237 => (if a0_2 = 0 then (none) else ((impl_mod.f (wrap64 (a1_0 - (wrap64 ((wrap64 (Int.tdiv (wrap64 (a1_1 - t237)) a0_2)) * a0_1)))) a0_0).bind fun t238 => (some (t238, t237))))


/-! ### impl_Pattern_at: function 68 -/
def impl_Pattern_at.f (a0_0 : Int) (a0_1 : Int) (a0_2 : Int) (a0_3 : Int) (l0_4 : List Int) (a1_0 : Int) (a1_1 : Int) : Option (Int) := (impl_Lattice_reduce.f a0_1 a0_2 a0_3 a1_0 a1_1).bind fun bt241 => ((impl_Lattice_number.f a0_1 a0_2 a0_3 bt241.1 bt241.2).bind fun t243 => (if 0 ≤ t243 then (if t243 < (l0_4.length : Int) then (some (rd l0_4 t243)) else (none)) else (none)))


/-! ### impl_Mat_apply: function 131 -/
def impl_Mat_apply.f (a0_0 : Int) (a0_1 : Int) (a0_2 : Int) (a0_3 : Int) (a1_0 : Int) (a1_1 : Int) : Option (Int × Int) := some (wrap64 ((wrap64 (a0_0 * a1_0)) + (wrap64 (a0_1 * a1_1))), wrap64 ((wrap64 (a0_2 * a1_0)) + (wrap64 (a0_3 * a1_1))))


/-! ### impl_Motion_apply: function 133 -/
def impl_Motion_apply.f (a0_0 : Int) (a0_1 : Int) (a0_2 : Int) (a0_3 : Int) (a0_4 : Int) (a0_5 : Int) (a1_0 : Int) (a1_1 : Int) : Option (Int × Int) := (impl_Mat_apply.f a0_0 a0_1 a0_2 a0_3 a1_0 a1_1).bind fun bt485 => ((impl_Vec_add.f bt485.1 bt485.2 a0_4 a0_5).bind fun bt487 => (some (bt487.1, bt487.2)))


/-! ### impl_Pattern_keeps: function 151 -/
def impl_Pattern_keeps.l0 : Nat → List (S38) → Int → Int → Int → Int → Int → Int → List Int → Int → Int → Int → Int → Int → Int → Option (Bool)
 | 0, _, _, _, _, _, _, _, _, _, _, _, _, _, _ => none
 | k + 1, x9, x10, x11, x1424000, x1424001, x1424002, x1424003, x1424004, x1425000, x1425001, x1425002, x1425003, x1425004, x1425005 => if x11 < x10 then (if 0 ≤ x11 then (if x11 < (x9.length : Int) then ((impl_Motion_apply.f x1425000 x1425001 x1425002 x1425003 x1425004 x1425005 ((rd_T38 x9 x11).f0) ((rd_T38 x9 x11).f1)).bind fun bt1430 => ((impl_Pattern_at.f x1424000 x1424001 x1424002 x1424003 x1424004 bt1430.1 bt1430.2).bind fun t1432 => (if x11 < (x1424004.length : Int) then (if t1432 = (rd x1424004 x11) then (impl_Pattern_keeps.l0 k x9 x10 (wrap64 (x11 + 1)) x1424000 x1424001 x1424002 x1424003 x1424004 x1425000 x1425001 x1425002 x1425003 x1425004 x1425005) else (some false)) else (none)))) else (none)) else (none)) else (some true)
def impl_Pattern_keeps.f (k : Nat) (a0_0 : Int) (a0_1 : Int) (a0_2 : Int) (a0_3 : Int) (l0_4 : List Int) (a1_0 : Int) (a1_1 : Int) (a1_2 : Int) (a1_3 : Int) (a1_4 : Int) (a1_5 : Int) : Option (Bool) := (impl_Lattice_cells.f k a0_1 a0_2 a0_3).bind fun t1425 => (impl_Pattern_keeps.l0 k t1425 (t1425.length : Int) 0 a0_0 a0_1 a0_2 a0_3 l0_4 a1_0 a1_1 a1_2 a1_3 a1_4 a1_5)
theorem impl_Pattern_keeps.mono_l : ∀ k, (∀ y0 y1 y2 y3 y4 y5 y6 y7 y8 y9 y10 y11 y12 y13, LeO (impl_Pattern_keeps.l0 k y0 y1 y2 y3 y4 y5 y6 y7 y8 y9 y10 y11 y12 y13) (impl_Pattern_keeps.l0 (k + 1) y0 y1 y2 y3 y4 y5 y6 y7 y8 y9 y10 y11 y12 y13))
 | 0 => fun _ _ _ _ _ _ _ _ _ _ _ _ _ _ r h => by simp [impl_Pattern_keeps.l0] at h
 | k + 1 => by
  have ih0 := impl_Pattern_keeps.mono_l k
  ·
   intro y0 y1 y2 y3 y4 y5 y6 y7 y8 y9 y10 y11 y12 y13
   unfold impl_Pattern_keeps.l0
   repeat' first
   | (with_reducible exact ih0 _ _ _ _ _ _ _ _ _ _ _ _ _ _)
   | (with_reducible exact impl_Lattice_cells.mono _ _ _ _)
   | (with_reducible exact LeO.refl _)
   | (with_reducible exact LeO.none _)
   | (with_reducible refine LeO.ite ?_ ?_)
   | (with_reducible refine LeO.bind ?_ (fun _ => ?_))
   | refine LeO.ite ?_ ?_
   | refine LeO.bind ?_ (fun _ => ?_)
theorem impl_Pattern_keeps.mono : ∀ a0 a1 a2 a3 a4 a5 a6 a7 a8 a9 a10 k, LeO (impl_Pattern_keeps.f k a0 a1 a2 a3 a4 a5 a6 a7 a8 a9 a10) (impl_Pattern_keeps.f (k + 1) a0 a1 a2 a3 a4 a5 a6 a7 a8 a9 a10) := by
 intro a0 a1 a2 a3 a4 a5 a6 a7 a8 a9 a10 k
 have ih0 := impl_Pattern_keeps.mono_l k
 unfold impl_Pattern_keeps.f
 repeat' first
   | (with_reducible exact ih0 _ _ _ _ _ _ _ _ _ _ _ _ _ _)
   | (with_reducible exact impl_Lattice_cells.mono _ _ _ _)
   | (with_reducible exact LeO.refl _)
   | (with_reducible exact LeO.none _)
   | (with_reducible refine LeO.ite ?_ ?_)
   | (with_reducible refine LeO.bind ?_ (fun _ => ?_))
   | refine LeO.ite ?_ ?_
   | refine LeO.bind ?_ (fun _ => ?_)


/-! ### impl_Pattern_fullLattice: function 149 -/
def impl_Pattern_fullLattice.l0 : Nat → List (S38) → List (S38) → Int → Int → Int → Int → Int → Int → List Int → Option (Int × Int × Int)
 | 0, _, _, _, _, _, _, _, _, _ => none
 | k + 1, x5, x19, x20, x21, x1435000, x1435001, x1435002, x1435003, x1435004 => if x21 < x20 then (if 0 ≤ x21 then (if x21 < (x19.length : Int) then ((impl_unit.f).bind fun bt1453 => ((impl_Pattern_keeps.f k x1435000 x1435001 x1435002 x1435003 x1435004 bt1453.1 bt1453.2.1 bt1453.2.2.1 bt1453.2.2.2 ((rd_T38 x19 x21).f0) ((rd_T38 x19 x21).f1)).bind fun t1457 => (if t1457 = true then (if x5.length < 8796093022208 then (impl_Pattern_fullLattice.l0 k (x5 ++ [(⟨(rd_T38 x19 x21).f0, (rd_T38 x19 x21).f1⟩ : S38)]) x19 x20 (wrap64 (x21 + 1)) x1435000 x1435001 x1435002 x1435003 x1435004) else (none)) else (impl_Pattern_fullLattice.l0 k x5 x19 x20 (wrap64 (x21 + 1)) x1435000 x1435001 x1435002 x1435003 x1435004)))) else (none)) else (none)) else ((impl_latticeOf.f k x5).bind fun bt1448 => (some (bt1448.1, bt1448.2.1, bt1448.2.2)))
def impl_Pattern_fullLattice.f (k : Nat) (a0_0 : Int) (a0_1 : Int) (a0_2 : Int) (a0_3 : Int) (l0_4 : List Int) : Option (Int × Int × Int) := (impl_Lattice_basis.f a0_1 a0_2 a0_3).bind fun bt1436 => ((impl_Lattice_cells.f k a0_1 a0_2 a0_3).bind fun t1445 => (impl_Pattern_fullLattice.l0 k (([(⟨bt1436.1, bt1436.2.1⟩ : S38), (⟨bt1436.2.2.1, bt1436.2.2.2⟩ : S38)] : List (S38))) t1445 (t1445.length : Int) 0 a0_0 a0_1 a0_2 a0_3 l0_4))
theorem impl_Pattern_fullLattice.mono_l : ∀ k, (∀ y0 y1 y2 y3 y4 y5 y6 y7 y8, LeO (impl_Pattern_fullLattice.l0 k y0 y1 y2 y3 y4 y5 y6 y7 y8) (impl_Pattern_fullLattice.l0 (k + 1) y0 y1 y2 y3 y4 y5 y6 y7 y8))
 | 0 => fun _ _ _ _ _ _ _ _ _ r h => by simp [impl_Pattern_fullLattice.l0] at h
 | k + 1 => by
  have ih0 := impl_Pattern_fullLattice.mono_l k
  ·
   intro y0 y1 y2 y3 y4 y5 y6 y7 y8
   unfold impl_Pattern_fullLattice.l0
   repeat' first
   | (with_reducible exact ih0 _ _ _ _ _ _ _ _ _)
   | (with_reducible exact impl_Lattice_cells.mono _ _ _ _)
   | (with_reducible exact impl_Pattern_keeps.mono _ _ _ _ _ _ _ _ _ _ _ _)
   | (with_reducible exact impl_latticeOf.mono _ _)
   | (with_reducible exact LeO.refl _)
   | (with_reducible exact LeO.none _)
   | (with_reducible refine LeO.ite ?_ ?_)
   | (with_reducible refine LeO.bind ?_ (fun _ => ?_))
   | refine LeO.ite ?_ ?_
   | refine LeO.bind ?_ (fun _ => ?_)
theorem impl_Pattern_fullLattice.mono : ∀ a0 a1 a2 a3 a4 k, LeO (impl_Pattern_fullLattice.f k a0 a1 a2 a3 a4) (impl_Pattern_fullLattice.f (k + 1) a0 a1 a2 a3 a4) := by
 intro a0 a1 a2 a3 a4 k
 have ih0 := impl_Pattern_fullLattice.mono_l k
 unfold impl_Pattern_fullLattice.f
 repeat' first
   | (with_reducible exact ih0 _ _ _ _ _ _ _ _ _)
   | (with_reducible exact impl_Lattice_cells.mono _ _ _ _)
   | (with_reducible exact impl_Pattern_keeps.mono _ _ _ _ _ _ _ _ _ _ _ _)
   | (with_reducible exact impl_latticeOf.mono _ _)
   | (with_reducible exact LeO.refl _)
   | (with_reducible exact LeO.none _)
   | (with_reducible refine LeO.ite ?_ ?_)
   | (with_reducible refine LeO.bind ?_ (fun _ => ?_))
   | refine LeO.ite ?_ ?_
   | refine LeO.bind ?_ (fun _ => ?_)


/-! ### impl_rollLattice: function 107 -/
def impl_rollLattice.f (k : Nat) (a0_0 : Int) (a0_1 : Int) (a0_2 : Int) (a0_3 : Int) (l0_4 : List Int) : Option (Int × Int × Int × Int) := (impl_IsPattern.f a0_0 a0_1 a0_2 a0_3 l0_4).bind fun t1578 => (if t1578 = true then (if a0_0 = 0 then ((impl_Pattern_fullLattice.f k a0_0 a0_1 a0_2 a0_3 l0_4).bind fun bt1579 => (some (bt1579.1, bt1579.2.1, bt1579.2.2, 0))) else (some (0, 0, 0, 1))) else (some (0, 0, 0, 1)))
theorem impl_rollLattice.mono : ∀ a0 a1 a2 a3 a4 k, LeO (impl_rollLattice.f k a0 a1 a2 a3 a4) (impl_rollLattice.f (k + 1) a0 a1 a2 a3 a4) := by
 intro a0 a1 a2 a3 a4 k
 unfold impl_rollLattice.f
 repeat' first
   | (with_reducible exact impl_Pattern_fullLattice.mono _ _ _ _ _ _)
   | (with_reducible exact LeO.refl _)
   | (with_reducible exact LeO.none _)
   | (with_reducible refine LeO.ite ?_ ?_)
   | (with_reducible refine LeO.bind ?_ (fun _ => ?_))
   | refine LeO.ite ?_ ?_
   | refine LeO.bind ?_ (fun _ => ?_)


attribute [local go_sem high] eqA38
/-! ### impl_Lattice_has: function 155 -/
def impl_Lattice_has.f (a0_0 : Int) (a0_1 : Int) (a0_2 : Int) (a1_0 : Int) (a1_1 : Int) : Option (Bool) := (impl_Lattice_reduce.f a0_0 a0_1 a0_2 a1_0 a1_1).bind fun bt1584 => (some (bt1584.1 == 0 && (bt1584.2 == 0)))


/-! ### impl_Lattice_multipleIn: function 154 -/
def impl_Lattice_multipleIn.l0 : Nat → Int → Int → Int → Int → Int → Int → Int → Option (Int × Int)
 | 0, _, _, _, _, _, _, _ => none
 | k + 1, x1587000, x1587001, x1587002, x1588000, x1588001, x1590000, x1590001 => (impl_Lattice_has.f x1587000 x1587001 x1587002 x1590000 x1590001).bind fun t1590 => (if t1590 = true then (some (x1590000, x1590001)) else ((impl_Vec_add.f x1590000 x1590001 x1588000 x1588001).bind fun bt1591 => (impl_Lattice_multipleIn.l0 k x1587000 x1587001 x1587002 x1588000 x1588001 bt1591.1 bt1591.2)))
def impl_Lattice_multipleIn.f (k : Nat) (a0_0 : Int) (a0_1 : Int) (a0_2 : Int) (a1_0 : Int) (a1_1 : Int) : Option (Int × Int) := impl_Lattice_multipleIn.l0 k a0_0 a0_1 a0_2 a1_0 a1_1 a1_0 a1_1
theorem impl_Lattice_multipleIn.mono_l : ∀ k, (∀ y0 y1 y2 y3 y4 y5 y6, LeO (impl_Lattice_multipleIn.l0 k y0 y1 y2 y3 y4 y5 y6) (impl_Lattice_multipleIn.l0 (k + 1) y0 y1 y2 y3 y4 y5 y6))
 | 0 => fun _ _ _ _ _ _ _ r h => by simp [impl_Lattice_multipleIn.l0] at h
 | k + 1 => by
  have ih0 := impl_Lattice_multipleIn.mono_l k
  ·
   intro y0 y1 y2 y3 y4 y5 y6
   unfold impl_Lattice_multipleIn.l0
   repeat' first
   | (with_reducible exact ih0 _ _ _ _ _ _ _)
   | (with_reducible exact LeO.refl _)
   | (with_reducible exact LeO.none _)
   | (with_reducible refine LeO.ite ?_ ?_)
   | (with_reducible refine LeO.bind ?_ (fun _ => ?_))
   | refine LeO.ite ?_ ?_
   | refine LeO.bind ?_ (fun _ => ?_)
theorem impl_Lattice_multipleIn.mono : ∀ a0 a1 a2 a3 a4 k, LeO (impl_Lattice_multipleIn.f k a0 a1 a2 a3 a4) (impl_Lattice_multipleIn.f (k + 1) a0 a1 a2 a3 a4) := by
 intro a0 a1 a2 a3 a4 k
 have ih0 := impl_Lattice_multipleIn.mono_l k
 unfold impl_Lattice_multipleIn.f
 repeat' first
   | (with_reducible exact ih0 _ _ _ _ _ _ _)
   | (with_reducible exact LeO.refl _)
   | (with_reducible exact LeO.none _)
   | (with_reducible refine LeO.ite ?_ ?_)
   | (with_reducible refine LeO.bind ?_ (fun _ => ?_))
   | refine LeO.ite ?_ ?_
   | refine LeO.bind ?_ (fun _ => ?_)


/-! ### impl_Lattice_repeat: function 108 -/
def impl_Lattice_repeat.f (k : Nat) (a0_0 : Int) (a0_1 : Int) (a0_2 : Int) : Option (Int) := (impl_Lattice_multipleIn.f k a0_0 a0_1 a0_2 0 1).bind fun bt1594 => (some bt1594.2)
theorem impl_Lattice_repeat.mono : ∀ a0 a1 a2 k, LeO (impl_Lattice_repeat.f k a0 a1 a2) (impl_Lattice_repeat.f (k + 1) a0 a1 a2) := by
 intro a0 a1 a2 k
 unfold impl_Lattice_repeat.f
 repeat' first
   | (with_reducible exact impl_Lattice_multipleIn.mono _ _ _ _ _ _)
   | (with_reducible exact LeO.refl _)
   | (with_reducible exact LeO.none _)
   | (with_reducible refine LeO.ite ?_ ?_)
   | (with_reducible refine LeO.bind ?_ (fun _ => ?_))
   | refine LeO.ite ?_ ?_
   | refine LeO.bind ?_ (fun _ => ?_)


/-! ### impl_isRoll: function 109 -/
def impl_isRoll.f (a0 : Int) : Option (Bool) := (impl_within.f a0 1 1000).bind fun t1640 => (some t1640)


/-! ### impl_Lattice_drop: function 111 -/
def impl_Lattice_drop.l0 : Nat → Int → Int → Int → Int → Int → Int → Option (Int)
 | 0, _, _, _, _, _, _ => none
 | k + 1, x1, x7, x8, x1691000, x1691001, x1691002 => if x8 < x7 then ((impl_Lattice_has.f x1691000 x1691001 x1691002 x1 (wrap64 (-x8))).bind fun t1692 => (if t1692 = true then (some x8) else (impl_Lattice_drop.l0 k x1 x7 (wrap64 (x8 + 1)) x1691000 x1691001 x1691002))) else (some (-1))
def impl_Lattice_drop.f (k : Nat) (a0_0 : Int) (a0_1 : Int) (a0_2 : Int) (a1 : Int) : Option (Int) := (impl_Lattice_repeat.f k a0_0 a0_1 a0_2).bind fun t1691 => (impl_Lattice_drop.l0 k a1 t1691 0 a0_0 a0_1 a0_2)
theorem impl_Lattice_drop.mono_l : ∀ k, (∀ y0 y1 y2 y3 y4 y5, LeO (impl_Lattice_drop.l0 k y0 y1 y2 y3 y4 y5) (impl_Lattice_drop.l0 (k + 1) y0 y1 y2 y3 y4 y5))
 | 0 => fun _ _ _ _ _ _ r h => by simp [impl_Lattice_drop.l0] at h
 | k + 1 => by
  have ih0 := impl_Lattice_drop.mono_l k
  ·
   intro y0 y1 y2 y3 y4 y5
   unfold impl_Lattice_drop.l0
   repeat' first
   | (with_reducible exact ih0 _ _ _ _ _ _)
   | (with_reducible exact impl_Lattice_repeat.mono _ _ _ _)
   | (with_reducible exact LeO.refl _)
   | (with_reducible exact LeO.none _)
   | (with_reducible refine LeO.ite ?_ ?_)
   | (with_reducible refine LeO.bind ?_ (fun _ => ?_))
   | refine LeO.ite ?_ ?_
   | refine LeO.bind ?_ (fun _ => ?_)
theorem impl_Lattice_drop.mono : ∀ a0 a1 a2 a3 k, LeO (impl_Lattice_drop.f k a0 a1 a2 a3) (impl_Lattice_drop.f (k + 1) a0 a1 a2 a3) := by
 intro a0 a1 a2 a3 k
 have ih0 := impl_Lattice_drop.mono_l k
 unfold impl_Lattice_drop.f
 repeat' first
   | (with_reducible exact ih0 _ _ _ _ _ _)
   | (with_reducible exact impl_Lattice_repeat.mono _ _ _ _)
   | (with_reducible exact LeO.refl _)
   | (with_reducible exact LeO.none _)
   | (with_reducible refine LeO.ite ?_ ?_)
   | (with_reducible refine LeO.bind ?_ (fun _ => ?_))
   | refine LeO.ite ?_ ?_
   | refine LeO.bind ?_ (fun _ => ?_)


/-! ### impl_panels: function 112 -/
def impl_panels.j0 : Nat → Int → Bool → Int → Int → Int → Option (Int × Int × Int)
 | 0, _, _, _, _, _ => none
 | k + 1, x1, x26, x1747000, x1747001, x1747002 => if x26 = true then (some (0, 0, 2)) else ((impl_Lattice_drop.f k x1747000 x1747001 x1747002 x1).bind fun t1748 => (if t1748 < 0 then (some (0, 0, 4)) else ((impl_Lattice_repeat.f k x1747000 x1747001 x1747002).bind fun t1749 => (some (t1749, t1748, 0)))))
def impl_panels.f (k : Nat) (a0_0 : Int) (a0_1 : Int) (a0_2 : Int) (a0_3 : Int) (l0_4 : List Int) (a1 : Int) (a2 : Bool) : Option (Int × Int × Int) := (impl_rollLattice.f k a0_0 a0_1 a0_2 a0_3 l0_4).bind fun bt1742 => (if bt1742.2.2.2 = 0 then ((impl_isRoll.f a1).bind fun t1747 => (if t1747 = true then (impl_panels.j0 k a1 (!a2) bt1742.1 bt1742.2.1 bt1742.2.2.1) else (impl_panels.j0 k a1 true bt1742.1 bt1742.2.1 bt1742.2.2.1))) else (some (0, 0, bt1742.2.2.2)))
theorem impl_panels.mono_l : ∀ k, (∀ y0 y1 y2 y3 y4, LeO (impl_panels.j0 k y0 y1 y2 y3 y4) (impl_panels.j0 (k + 1) y0 y1 y2 y3 y4))
 | 0 => fun _ _ _ _ _ r h => by simp [impl_panels.j0] at h
 | k + 1 => by
  have ih0 := impl_panels.mono_l k
  ·
   intro y0 y1 y2 y3 y4
   unfold impl_panels.j0
   repeat' first
   | (with_reducible exact ih0 _ _ _ _ _)
   | (with_reducible exact impl_Lattice_drop.mono _ _ _ _ _)
   | (with_reducible exact impl_Lattice_repeat.mono _ _ _ _)
   | (with_reducible exact impl_rollLattice.mono _ _ _ _ _ _)
   | (with_reducible exact LeO.refl _)
   | (with_reducible exact LeO.none _)
   | (with_reducible refine LeO.ite ?_ ?_)
   | (with_reducible refine LeO.bind ?_ (fun _ => ?_))
   | refine LeO.ite ?_ ?_
   | refine LeO.bind ?_ (fun _ => ?_)
theorem impl_panels.mono : ∀ a0 a1 a2 a3 a4 a5 a6 k, LeO (impl_panels.f k a0 a1 a2 a3 a4 a5 a6) (impl_panels.f (k + 1) a0 a1 a2 a3 a4 a5 a6) := by
 intro a0 a1 a2 a3 a4 a5 a6 k
 have ih0 := impl_panels.mono_l k
 unfold impl_panels.f
 repeat' first
   | (with_reducible exact ih0 _ _ _ _ _)
   | (with_reducible exact impl_Lattice_drop.mono _ _ _ _ _)
   | (with_reducible exact impl_Lattice_repeat.mono _ _ _ _)
   | (with_reducible exact impl_rollLattice.mono _ _ _ _ _ _)
   | (with_reducible exact LeO.refl _)
   | (with_reducible exact LeO.none _)
   | (with_reducible refine LeO.ite ?_ ?_)
   | (with_reducible refine LeO.bind ?_ (fun _ => ?_))
   | refine LeO.ite ?_ ?_
   | refine LeO.bind ?_ (fun _ => ?_)


/-! ### impl_DropOf: function 53 -/
def impl_DropOf.f (k : Nat) (a0_0 : Int) (a0_1 : Int) (a0_2 : Int) (a0_3 : Int) (l0_4 : List Int) (a1 : Int) : Option (Int × Int) := (impl_panels.f k a0_0 a0_1 a0_2 a0_3 l0_4 a1 true).bind fun bt1751 => (some (bt1751.2.1, bt1751.2.2))
theorem impl_DropOf.mono : ∀ a0 a1 a2 a3 a4 a5 k, LeO (impl_DropOf.f k a0 a1 a2 a3 a4 a5) (impl_DropOf.f (k + 1) a0 a1 a2 a3 a4 a5) := by
 intro a0 a1 a2 a3 a4 a5 k
 unfold impl_DropOf.f
 repeat' first
   | (with_reducible exact impl_panels.mono _ _ _ _ _ _ _ _)
   | (with_reducible exact LeO.refl _)
   | (with_reducible exact LeO.none _)
   | (with_reducible refine LeO.ite ?_ ?_)
   | (with_reducible refine LeO.bind ?_ (fun _ => ?_))
   | refine LeO.ite ?_ ?_
   | refine LeO.bind ?_ (fun _ => ?_)


/-! ### laws_FnExactDropOf: function 12 -/
def laws_FnExactDropOf.f (k : Nat) (a0_0 : Int) (a0_1 : Int) (a0_2 : Int) (a0_3 : Int) (l0_4 : List Int) (a1 : Int) : Option (Bool) := (laws_szPattern.f a0_0 a0_1 a0_2 a0_3 l0_4 1048576).bind fun t1755 => (if t1755 < 0 then (some true) else ((laws_toPattern.f k a0_0 a0_1 a0_2 a0_3 l0_4).bind fun bt1756 => ((spec_DropOf.f k bt1756.1 bt1756.2.1 bt1756.2.2.1 bt1756.2.2.2.1 bt1756.2.2.2.2 a1).bind fun bt1763 => ((laws_toPattern.f k a0_0 a0_1 a0_2 a0_3 l0_4).bind fun bt1765 => ((impl_DropOf.f k bt1765.1 bt1765.2.1 bt1765.2.2.1 bt1765.2.2.2.1 bt1765.2.2.2.2 a1).bind fun bt1773 => (if bt1773.1 = bt1763.1 then (if bt1773.2 = bt1763.2 then ((laws_toPattern.f k a0_0 a0_1 a0_2 a0_3 l0_4).bind fun bt1775 => ((laws_eqPattern.f k bt1765.1 bt1765.2.1 bt1765.2.2.1 bt1765.2.2.2.1 bt1765.2.2.2.2 bt1775.1 bt1775.2.1 bt1775.2.2.1 bt1775.2.2.2.1 bt1775.2.2.2.2).bind fun t1782 => (if t1782 = true then (some true) else (none)))) else (none)) else (none)))))))
theorem laws_FnExactDropOf.mono : ∀ a0 a1 a2 a3 a4 a5 k, LeO (laws_FnExactDropOf.f k a0 a1 a2 a3 a4 a5) (laws_FnExactDropOf.f (k + 1) a0 a1 a2 a3 a4 a5) := by
 intro a0 a1 a2 a3 a4 a5 k
 unfold laws_FnExactDropOf.f
 repeat' first
   | (with_reducible exact impl_DropOf.mono _ _ _ _ _ _ _)
   | (with_reducible exact laws_eqPattern.mono _ _ _ _ _ _ _ _ _ _ _)
   | (with_reducible exact laws_toPattern.mono _ _ _ _ _ _)
   | (with_reducible exact spec_DropOf.mono _ _ _ _ _ _ _)
   | (with_reducible exact LeO.refl _)
   | (with_reducible exact LeO.none _)
   | (with_reducible refine LeO.ite ?_ ?_)
   | (with_reducible refine LeO.bind ?_ (fun _ => ?_))
   | refine LeO.ite ?_ ?_
   | refine LeO.bind ?_ (fun _ => ?_)


/-! ### laws_heldInt64S: function 72 -/
def laws_heldInt64S.l0 : Nat → List Int → Int → Int → Option (Int)
 | 0, _, _, _ => none
 | k + 1, x0, x1, x5 => if x5 < (x0.length : Int) then (if 0 ≤ x5 then (if (rd x0 x5) = x1 then (laws_heldInt64S.l0 k x0 (wrap64 (x1 + 1)) (wrap64 (x5 + 1))) else (some (-1))) else (none)) else (some x1)
def laws_heldInt64S.f (k : Nat) (l0 : List Int) (a1 : Int) : Option (Int) := laws_heldInt64S.l0 k l0 a1 0
theorem laws_heldInt64S.mono_l : ∀ k, (∀ y0 y1 y2, LeO (laws_heldInt64S.l0 k y0 y1 y2) (laws_heldInt64S.l0 (k + 1) y0 y1 y2))
 | 0 => fun _ _ _ r h => by simp [laws_heldInt64S.l0] at h
 | k + 1 => by
  have ih0 := laws_heldInt64S.mono_l k
  ·
   intro y0 y1 y2
   unfold laws_heldInt64S.l0
   repeat' first
   | (with_reducible exact ih0 _ _ _)
   | (with_reducible exact LeO.refl _)
   | (with_reducible exact LeO.none _)
   | (with_reducible refine LeO.ite ?_ ?_)
   | (with_reducible refine LeO.bind ?_ (fun _ => ?_))
   | refine LeO.ite ?_ ?_
   | refine LeO.bind ?_ (fun _ => ?_)
theorem laws_heldInt64S.mono : ∀ a0 a1 k, LeO (laws_heldInt64S.f k a0 a1) (laws_heldInt64S.f (k + 1) a0 a1) := by
 intro a0 a1 k
 have ih0 := laws_heldInt64S.mono_l k
 unfold laws_heldInt64S.f
 repeat' first
   | (with_reducible exact ih0 _ _ _)
   | (with_reducible exact LeO.refl _)
   | (with_reducible exact LeO.none _)
   | (with_reducible refine LeO.ite ?_ ?_)
   | (with_reducible refine LeO.bind ?_ (fun _ => ?_))
   | refine LeO.ite ?_ ?_
   | refine LeO.bind ?_ (fun _ => ?_)


/-! ### laws_markInt64S: function 71 -/
def laws_markInt64S.l0 : Nat → List Int → Int → Int → Option (Int × List Int)
 | 0, _, _, _ => none
 | k + 1, x0, x1, x5 => if x5 < (x0.length : Int) then (if 0 ≤ x5 then (laws_markInt64S.l0 k (x0.set (x5 : Int).toNat x1) (wrap64 (x1 + 1)) (wrap64 (x5 + 1))) else (none)) else (some (x1, x0))
def laws_markInt64S.f (k : Nat) (l0 : List Int) (a1 : Int) : Option (Int × List Int) := laws_markInt64S.l0 k l0 a1 0
theorem laws_markInt64S.mono_l : ∀ k, (∀ y0 y1 y2, LeO (laws_markInt64S.l0 k y0 y1 y2) (laws_markInt64S.l0 (k + 1) y0 y1 y2))
 | 0 => fun _ _ _ r h => by simp [laws_markInt64S.l0] at h
 | k + 1 => by
  have ih0 := laws_markInt64S.mono_l k
  ·
   intro y0 y1 y2
   unfold laws_markInt64S.l0
   repeat' first
   | (with_reducible exact ih0 _ _ _)
   | (with_reducible exact LeO.refl _)
   | (with_reducible exact LeO.none _)
   | (with_reducible refine LeO.ite ?_ ?_)
   | (with_reducible refine LeO.bind ?_ (fun _ => ?_))
   | refine LeO.ite ?_ ?_
   | refine LeO.bind ?_ (fun _ => ?_)
theorem laws_markInt64S.mono : ∀ a0 a1 k, LeO (laws_markInt64S.f k a0 a1) (laws_markInt64S.f (k + 1) a0 a1) := by
 intro a0 a1 k
 have ih0 := laws_markInt64S.mono_l k
 unfold laws_markInt64S.f
 repeat' first
   | (with_reducible exact ih0 _ _ _)
   | (with_reducible exact LeO.refl _)
   | (with_reducible exact LeO.none _)
   | (with_reducible refine LeO.ite ?_ ?_)
   | (with_reducible refine LeO.bind ?_ (fun _ => ?_))
   | refine LeO.ite ?_ ?_
   | refine LeO.bind ?_ (fun _ => ?_)


/-! ### laws_heldPattern: function 20 -/
def laws_heldPattern.f (k : Nat) (a0_0 : Int) (a0_1 : Int) (a0_2 : Int) (a0_3 : Int) (l0_4 : List Int) (a1 : Int) : Option (Int) := (laws_heldInt64S.f k l0_4 a1).bind fun t279 => (if t279 < 0 then (some (-1)) else (some t279))
theorem laws_heldPattern.mono : ∀ a0 a1 a2 a3 a4 a5 k, LeO (laws_heldPattern.f k a0 a1 a2 a3 a4 a5) (laws_heldPattern.f (k + 1) a0 a1 a2 a3 a4 a5) := by
 intro a0 a1 a2 a3 a4 a5 k
 unfold laws_heldPattern.f
 repeat' first
   | (with_reducible exact laws_heldInt64S.mono _ _ _)
   | (with_reducible exact LeO.refl _)
   | (with_reducible exact LeO.none _)
   | (with_reducible refine LeO.ite ?_ ?_)
   | (with_reducible refine LeO.bind ?_ (fun _ => ?_))
   | refine LeO.ite ?_ ?_
   | refine LeO.bind ?_ (fun _ => ?_)


/-! ### laws_markPattern: function 19 -/
def laws_markPattern.f (k : Nat) (a0_0 : Int) (a0_1 : Int) (a0_2 : Int) (a0_3 : Int) (l0_4 : List Int) (a1 : Int) : Option (Int × List Int) := (laws_markInt64S.f k l0_4 a1).bind fun bt275 => (some (bt275.1, bt275.2))
theorem laws_markPattern.mono : ∀ a0 a1 a2 a3 a4 a5 k, LeO (laws_markPattern.f k a0 a1 a2 a3 a4 a5) (laws_markPattern.f (k + 1) a0 a1 a2 a3 a4 a5) := by
 intro a0 a1 a2 a3 a4 a5 k
 unfold laws_markPattern.f
 repeat' first
   | (with_reducible exact laws_markInt64S.mono _ _ _)
   | (with_reducible exact LeO.refl _)
   | (with_reducible exact LeO.none _)
   | (with_reducible refine LeO.ite ?_ ?_)
   | (with_reducible refine LeO.bind ?_ (fun _ => ?_))
   | refine LeO.ite ?_ ?_
   | refine LeO.bind ?_ (fun _ => ?_)


/-! ### impl_panelStarts: function 115 -/
def impl_panelStarts.l0 : Nat → Int → Int → Int → Int → List Int → Int → Option (List Int)
 | 0, _, _, _, _, _, _ => none
 | k + 1, x0, x1, x2, x3, x9, x10 => if x10 < x3 then (if 0 ≤ (wrap64 (x10 - 1)) then (if (wrap64 (x10 - 1)) < (x9.length : Int) then ((impl_mod.f (wrap64 ((wrap64 (x10 * x1)) - (wrap64 ((rd x9 (wrap64 (x10 - 1))) + x2)))) x0).bind fun t1821 => (if x9.length < 17592186044416 then (impl_panelStarts.l0 k x0 x1 x2 x3 (x9 ++ [wrap64 ((wrap64 ((rd x9 (wrap64 (x10 - 1))) + x2)) + t1821)]) (wrap64 (x10 + 1))) else (none))) else (none)) else (none)) else (some x9)
def impl_panelStarts.f (k : Nat) (a0 : Int) (a1 : Int) (a2 : Int) (a3 : Int) : Option (List Int) := impl_panelStarts.l0 k a0 a1 a2 a3 (([0] : List Int)) 1
theorem impl_panelStarts.mono_l : ∀ k, (∀ y0 y1 y2 y3 y4 y5, LeO (impl_panelStarts.l0 k y0 y1 y2 y3 y4 y5) (impl_panelStarts.l0 (k + 1) y0 y1 y2 y3 y4 y5))
 | 0 => fun _ _ _ _ _ _ r h => by simp [impl_panelStarts.l0] at h
 | k + 1 => by
  have ih0 := impl_panelStarts.mono_l k
  ·
   intro y0 y1 y2 y3 y4 y5
   unfold impl_panelStarts.l0
   repeat' first
   | (with_reducible exact ih0 _ _ _ _ _ _)
   | (with_reducible exact LeO.refl _)
   | (with_reducible exact LeO.none _)
   | (with_reducible refine LeO.ite ?_ ?_)
   | (with_reducible refine LeO.bind ?_ (fun _ => ?_))
   | refine LeO.ite ?_ ?_
   | refine LeO.bind ?_ (fun _ => ?_)
theorem impl_panelStarts.mono : ∀ a0 a1 a2 a3 k, LeO (impl_panelStarts.f k a0 a1 a2 a3) (impl_panelStarts.f (k + 1) a0 a1 a2 a3) := by
 intro a0 a1 a2 a3 k
 have ih0 := impl_panelStarts.mono_l k
 unfold impl_panelStarts.f
 repeat' first
   | (with_reducible exact ih0 _ _ _ _ _ _)
   | (with_reducible exact LeO.refl _)
   | (with_reducible exact LeO.none _)
   | (with_reducible refine LeO.ite ?_ ?_)
   | (with_reducible refine LeO.bind ?_ (fun _ => ?_))
   | refine LeO.ite ?_ ?_
   | refine LeO.bind ?_ (fun _ => ?_)


/-! ### spec_l24Starts: function 113 -/
def spec_l24Starts.l0 : Nat → Int → Int → Int → Int → List Int → Int → Option (List Int)
 | 0, _, _, _, _, _, _ => none
 | k + 1, x0, x1, x2, x3, x9, x10 => if x10 < x3 then (if 0 ≤ (wrap64 (x10 - 1)) then (if (wrap64 (x10 - 1)) < (x9.length : Int) then ((spec_l01Mod.f (wrap64 ((wrap64 (x10 * x1)) - (wrap64 ((rd x9 (wrap64 (x10 - 1))) + x2)))) x0).bind fun t1787 => (if x9.length < 17592186044416 then (spec_l24Starts.l0 k x0 x1 x2 x3 (x9 ++ [wrap64 ((wrap64 ((rd x9 (wrap64 (x10 - 1))) + x2)) + t1787)]) (wrap64 (x10 + 1))) else (none))) else (none)) else (none)) else (some x9)
def spec_l24Starts.f (k : Nat) (a0 : Int) (a1 : Int) (a2 : Int) (a3 : Int) : Option (List Int) := spec_l24Starts.l0 k a0 a1 a2 a3 (([0] : List Int)) 1
theorem spec_l24Starts.mono_l : ∀ k, (∀ y0 y1 y2 y3 y4 y5, LeO (spec_l24Starts.l0 k y0 y1 y2 y3 y4 y5) (spec_l24Starts.l0 (k + 1) y0 y1 y2 y3 y4 y5))
 | 0 => fun _ _ _ _ _ _ r h => by simp [spec_l24Starts.l0] at h
 | k + 1 => by
  have ih0 := spec_l24Starts.mono_l k
  ·
   intro y0 y1 y2 y3 y4 y5
   unfold spec_l24Starts.l0
   repeat' first
   | (with_reducible exact ih0 _ _ _ _ _ _)
   | (with_reducible exact LeO.refl _)
   | (with_reducible exact LeO.none _)
   | (with_reducible refine LeO.ite ?_ ?_)
   | (with_reducible refine LeO.bind ?_ (fun _ => ?_))
   | refine LeO.ite ?_ ?_
   | refine LeO.bind ?_ (fun _ => ?_)
theorem spec_l24Starts.mono : ∀ a0 a1 a2 a3 k, LeO (spec_l24Starts.f k a0 a1 a2 a3) (spec_l24Starts.f (k + 1) a0 a1 a2 a3) := by
 intro a0 a1 a2 a3 k
 have ih0 := spec_l24Starts.mono_l k
 unfold spec_l24Starts.f
 repeat' first
   | (with_reducible exact ih0 _ _ _ _ _ _)
   | (with_reducible exact LeO.refl _)
   | (with_reducible exact LeO.none _)
   | (with_reducible refine LeO.ite ?_ ?_)
   | (with_reducible refine LeO.bind ?_ (fun _ => ?_))
   | refine LeO.ite ?_ ?_
   | refine LeO.bind ?_ (fun _ => ?_)

end Go.Proofs.Ytomgliinndfliaa.X
