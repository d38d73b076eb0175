/- Part of the proof of the law FnExactPanelStarts: the functions that the code computes. No condition of its own. -/
import Derived.Test.YtioendlbpendpaaCFnExactPanelStartsV0
import Derived.Test.YtioendlbpendpaaProg
import Derived.Below
import Derived.Deep.Draws
import Derived.Deep.AppendLies
import Derived.Maps.AppendAt
import Derived.OwnWalk
import Derived.Laws.BytesArg
import Derived.Laws.MakeOwn
import Derived.Laws.OwnMore
import Derived.Deep.OwnRows
import Derived.Tactics
import Derived.Lib.ConvBytes
import Derived.Laws.Slices
import Derived.WalkKit
import Derived.KernelRfl
import Derived.RowKit3
import Derived.Deep.LoopGhost
import Derived.Deep.QuietTactic
import Derived.BigQuiet
import Derived.WideLaws
import Derived.Deep.DeepCutAuto
import Derived.Deep.CutBlock
import Derived.Deep.RegionHeld3
import Derived.Laws.Rows
import Derived.Lib.AppendStr
import Derived.ArgAppend
import Derived.Laws.IdiomCopy
import Derived.OrdersHeld
import Derived.Laws.BitsLemmas
import Derived.RowKit
namespace Go.Proofs.Ytioendlbpendpaa.X
open Go.RowKit Go.Proofs.YtioendlbpendpaaW.PrintWords Go.Proofs.YtioendlbpendpaaW.PrintLast Go.Proofs.YtioendlbpendpaaW.PrintMore
attribute [local go_sem] max2_int min2_int max_two min_two max_three min_three max_four min_four   -- for this text's walks alone
set_option linter.unusedVariables false
set_option linter.unusedSimpArgs false
def errW : Option Int → Value
  | none => .nilIface
  | some c => .iface 0 (.int .i64 c)
theorem errW_none : errW none = .nilIface := rfl
theorem errW_some (c : Int) : errW (some c) = .iface 0 (.int .i64 c) := rfl
theorem info2 : (Try.prog.info? 2).map (fun i => (i.zero, i.size, i.bytes)) = some (some (.int .i64 0), 1, 8) := by kernel_rfl
theorem info4 : (Try.prog.info? 4).map (fun i => (i.zero, i.size, i.bytes)) = some (some (.bool false), 1, 1) := by kernel_rfl
theorem info49 : (Try.prog.info? 49).map (fun i => (i.zero, i.size, i.bytes)) = some (some (.agg #[(.int .i64 0), (.int .i64 0), (.int .i64 0), (.int .i64 0)]), 4, 32) := by kernel_rfl
theorem info50 : (Try.prog.info? 50).map (fun i => (i.zero, i.size, i.bytes)) = some (some (.agg #[(.int .i64 0), (.int .i64 0)]), 2, 16) := by kernel_rfl
theorem info52 : (Try.prog.info? 52).map (fun i => (i.zero, i.size, i.bytes)) = some (some (.agg #[(.int .i64 0), (.int .i64 0), (.int .i64 0), (.int .i64 0), (.int .i64 0), (.int .i64 0)]), 6, 48) := by kernel_rfl
theorem info116 : (Try.prog.info? 116).map (fun i => (i.zero, i.size, i.bytes)) = some (some (.agg #[(.int .i64 0), (.int .i64 0), (.int .i64 0)]), 3, 24) := by kernel_rfl
-- the values' own types
structure S50 where
  f0 : Int
  f1 : Int
def z50 : S50 := ⟨(0 : Int), (0 : Int)⟩
def k50 : Kd S50 := Kd.iso (Kd.pair (Kd.int .i64) (Kd.int .i64)) (fun x : S50 => (x.f0, x.f1))
theorem k50_open {w : World} {x : S50} {cs : List Value} (h : k50.K w x cs) : cs = [.int .i64 x.f0, .int .i64 x.f1] := by
  obtain ⟨_, _, rfl, rfl, rfl⟩ := h
  exact rfl
theorem k50_openM {w : World} {base : Nat} {ok : Nat → Prop} {x : S50} {cs : List Value} (h : k50.M w base ok x cs) : cs = [.int .i64 x.f0, .int .i64 x.f1] := by
  obtain ⟨_, _, rfl, rfl, rfl⟩ := h
  exact rfl
theorem k50_mk (w : World) (x : S50)  : k50.K w x [.int .i64 x.f0, .int .i64 x.f1] := ⟨[.int .i64 x.f0], [.int .i64 x.f1], rfl, rfl, rfl⟩
theorem k50_mkM (w : World) (base : Nat) (ok : Nat → Prop) (x : S50)  : k50.M w base ok x [.int .i64 x.f0, .int .i64 x.f1] := ⟨[.int .i64 x.f0], [.int .i64 x.f1], rfl, rfl, rfl⟩
theorem k50_mkF (W : World) (ok : Nat → Prop) (x : S50) : Kd.FK k50 W ok x [.int .i64 x.f0, .int .i64 x.f1] := fun W2 _ => k50_mk W2 x
def rd_T50 (xs : List S50) (i : Int) : S50 := xs.getD i.toNat z50
theorem at_T50 {w : World} {A : Option Addr} {n : Nat} {xs : List S50} (h : Kd.C k50 w A n xs) (i : Int) (h0 : 0 ≤ i) (h1 : i < n) : ∃ ad , A = some ad ∧ w.cell? (ad.add (i.toNat * 2)) = some (.int .i64 (rd_T50 xs i).f0) ∧ w.cell? ⟨(ad.add (i.toNat * 2)).block, (ad.add (i.toNat * 2)).off + 1, none⟩ = some (.int .i64 (rd_T50 xs i).f1) := by
  obtain ⟨ad, c, e, _, hK, hc0⟩ := Kd.C_get h z50 i h0 h1
  have hc : ∀ j u, c[j]? = some u → w.cell? (ad.add (i.toNat * 2 + j)) = some u := hc0
  obtain rfl := k50_open hK
  exact ⟨ad, e, hc 0 _ rfl, by rw [← yF _ _ 1 (by omega)]; exact hc 1 _ rfl⟩
def rd_L2 (xs : List (List Int)) (i : Int) : (List Int) := xs.getD i.toNat ([] : List Int)
theorem at_L2 {w : World} {A : Option Addr} {n : Nat} {xs : List (List Int)} (h : Kd.C (Kd.slice 2 (Kd.int .i64)) w A n xs) (i : Int) (h0 : 0 ≤ i) (h1 : i < n) : ∃ ad A0 c0, A = some ad ∧ w.cell? (ad.add i.toNat) = some (.slice A0 (rd_L2 xs i).length c0) ∧ (rd_L2 xs i).length ≤ c0 ∧ (Kd.int .i64).C w A0 (rd_L2 xs i).length (rd_L2 xs i) := by
  obtain ⟨ad, c, e, _, hK, hc0⟩ := Kd.C_get h ([] : List Int) i h0 h1
  have hc : ∀ j u, c[j]? = some u → w.cell? (ad.add (i.toNat * 1 + j)) = some u := hc0
  obtain ⟨A0, c0, rfl, l0, g0⟩ := hK
  exact ⟨ad, A0, c0, e, by have hq := hc 0 _ rfl; rwa [Nat.mul_one, Nat.add_zero] at hq, l0, g0⟩
structure S49 where
  f0 : Int
  f1 : Int
  f2 : Int
  f3 : Int
def z49 : S49 := ⟨(0 : Int), (0 : Int), (0 : Int), (0 : Int)⟩
def k49 : Kd S49 := Kd.iso (Kd.pair (Kd.int .i64) (Kd.pair (Kd.int .i64) (Kd.pair (Kd.int .i64) (Kd.int .i64)))) (fun x : S49 => (x.f0, x.f1, x.f2, x.f3))
theorem k49_open {w : World} {x : S49} {cs : List Value} (h : k49.K w x cs) : cs = [.int .i64 x.f0, .int .i64 x.f1, .int .i64 x.f2, .int .i64 x.f3] := by
  obtain ⟨_, _, rfl, rfl, ⟨_, _, rfl, rfl, ⟨_, _, rfl, rfl, rfl⟩⟩⟩ := h
  exact rfl
theorem k49_openM {w : World} {base : Nat} {ok : Nat → Prop} {x : S49} {cs : List Value} (h : k49.M w base ok x cs) : cs = [.int .i64 x.f0, .int .i64 x.f1, .int .i64 x.f2, .int .i64 x.f3] := by
  obtain ⟨_, _, rfl, rfl, ⟨_, _, rfl, rfl, ⟨_, _, rfl, rfl, rfl⟩⟩⟩ := h
  exact rfl
theorem k49_mk (w : World) (x : S49)  : k49.K w x [.int .i64 x.f0, .int .i64 x.f1, .int .i64 x.f2, .int .i64 x.f3] := ⟨[.int .i64 x.f0], [.int .i64 x.f1, .int .i64 x.f2, .int .i64 x.f3], rfl, rfl, ⟨[.int .i64 x.f1], [.int .i64 x.f2, .int .i64 x.f3], rfl, rfl, ⟨[.int .i64 x.f2], [.int .i64 x.f3], rfl, rfl, rfl⟩⟩⟩
theorem k49_mkM (w : World) (base : Nat) (ok : Nat → Prop) (x : S49)  : k49.M w base ok x [.int .i64 x.f0, .int .i64 x.f1, .int .i64 x.f2, .int .i64 x.f3] := ⟨[.int .i64 x.f0], [.int .i64 x.f1, .int .i64 x.f2, .int .i64 x.f3], rfl, rfl, ⟨[.int .i64 x.f1], [.int .i64 x.f2, .int .i64 x.f3], rfl, rfl, ⟨[.int .i64 x.f2], [.int .i64 x.f3], rfl, rfl, rfl⟩⟩⟩
theorem k49_mkF (W : World) (ok : Nat → Prop) (x : S49) : Kd.FK k49 W ok x [.int .i64 x.f0, .int .i64 x.f1, .int .i64 x.f2, .int .i64 x.f3] := fun W2 _ => k49_mk W2 x
def rd_T49 (xs : List S49) (i : Int) : S49 := xs.getD i.toNat z49
theorem at_T49 {w : World} {A : Option Addr} {n : Nat} {xs : List S49} (h : Kd.C k49 w A n xs) (i : Int) (h0 : 0 ≤ i) (h1 : i < n) : ∃ ad , A = some ad ∧ w.cell? (ad.add (i.toNat * 4)) = some (.int .i64 (rd_T49 xs i).f0) ∧ w.cell? ⟨(ad.add (i.toNat * 4)).block, (ad.add (i.toNat * 4)).off + 1, none⟩ = some (.int .i64 (rd_T49 xs i).f1) ∧ w.cell? ⟨(ad.add (i.toNat * 4)).block, (ad.add (i.toNat * 4)).off + 2, none⟩ = some (.int .i64 (rd_T49 xs i).f2) ∧ w.cell? ⟨(ad.add (i.toNat * 4)).block, (ad.add (i.toNat * 4)).off + 3, none⟩ = some (.int .i64 (rd_T49 xs i).f3) := by
  obtain ⟨ad, c, e, _, hK, hc0⟩ := Kd.C_get h z49 i h0 h1
  have hc : ∀ j u, c[j]? = some u → w.cell? (ad.add (i.toNat * 4 + j)) = some u := hc0
  obtain rfl := k49_open hK
  exact ⟨ad, e, hc 0 _ rfl, by rw [← yF _ _ 1 (by omega)]; exact hc 1 _ rfl, by rw [← yF _ _ 2 (by omega)]; exact hc 2 _ rfl, by rw [← yF _ _ 3 (by omega)]; exact hc 3 _ rfl⟩
structure S42 where
  f0 : Int
  f1 : Int
  f2 : Int
  f3 : Int
def z42 : S42 := ⟨(0 : Int), (0 : Int), (0 : Int), (0 : Int)⟩
def k42 : Kd S42 := Kd.iso (Kd.pair (Kd.int .i64) (Kd.pair (Kd.int .i64) (Kd.pair (Kd.int .i64) (Kd.int .i64)))) (fun x : S42 => (x.f0, x.f1, x.f2, x.f3))
theorem k42_open {w : World} {x : S42} {cs : List Value} (h : k42.K w x cs) : cs = [.int .i64 x.f0, .int .i64 x.f1, .int .i64 x.f2, .int .i64 x.f3] := by
  obtain ⟨_, _, rfl, rfl, ⟨_, _, rfl, rfl, ⟨_, _, rfl, rfl, rfl⟩⟩⟩ := h
  exact rfl
theorem k42_openM {w : World} {base : Nat} {ok : Nat → Prop} {x : S42} {cs : List Value} (h : k42.M w base ok x cs) : cs = [.int .i64 x.f0, .int .i64 x.f1, .int .i64 x.f2, .int .i64 x.f3] := by
  obtain ⟨_, _, rfl, rfl, ⟨_, _, rfl, rfl, ⟨_, _, rfl, rfl, rfl⟩⟩⟩ := h
  exact rfl
theorem k42_mk (w : World) (x : S42)  : k42.K w x [.int .i64 x.f0, .int .i64 x.f1, .int .i64 x.f2, .int .i64 x.f3] := ⟨[.int .i64 x.f0], [.int .i64 x.f1, .int .i64 x.f2, .int .i64 x.f3], rfl, rfl, ⟨[.int .i64 x.f1], [.int .i64 x.f2, .int .i64 x.f3], rfl, rfl, ⟨[.int .i64 x.f2], [.int .i64 x.f3], rfl, rfl, rfl⟩⟩⟩
theorem k42_mkM (w : World) (base : Nat) (ok : Nat → Prop) (x : S42)  : k42.M w base ok x [.int .i64 x.f0, .int .i64 x.f1, .int .i64 x.f2, .int .i64 x.f3] := ⟨[.int .i64 x.f0], [.int .i64 x.f1, .int .i64 x.f2, .int .i64 x.f3], rfl, rfl, ⟨[.int .i64 x.f1], [.int .i64 x.f2, .int .i64 x.f3], rfl, rfl, ⟨[.int .i64 x.f2], [.int .i64 x.f3], rfl, rfl, rfl⟩⟩⟩
theorem k42_mkF (W : World) (ok : Nat → Prop) (x : S42) : Kd.FK k42 W ok x [.int .i64 x.f0, .int .i64 x.f1, .int .i64 x.f2, .int .i64 x.f3] := fun W2 _ => k42_mk W2 x
def rd_T42 (xs : List S42) (i : Int) : S42 := xs.getD i.toNat z42
theorem at_T42 {w : World} {A : Option Addr} {n : Nat} {xs : List S42} (h : Kd.C k42 w A n xs) (i : Int) (h0 : 0 ≤ i) (h1 : i < n) : ∃ ad , A = some ad ∧ w.cell? (ad.add (i.toNat * 4)) = some (.int .i64 (rd_T42 xs i).f0) ∧ w.cell? ⟨(ad.add (i.toNat * 4)).block, (ad.add (i.toNat * 4)).off + 1, none⟩ = some (.int .i64 (rd_T42 xs i).f1) ∧ w.cell? ⟨(ad.add (i.toNat * 4)).block, (ad.add (i.toNat * 4)).off + 2, none⟩ = some (.int .i64 (rd_T42 xs i).f2) ∧ w.cell? ⟨(ad.add (i.toNat * 4)).block, (ad.add (i.toNat * 4)).off + 3, none⟩ = some (.int .i64 (rd_T42 xs i).f3) := by
  obtain ⟨ad, c, e, _, hK, hc0⟩ := Kd.C_get h z42 i h0 h1
  have hc : ∀ j u, c[j]? = some u → w.cell? (ad.add (i.toNat * 4 + j)) = some u := hc0
  obtain rfl := k42_open hK
  exact ⟨ad, e, hc 0 _ rfl, by rw [← yF _ _ 1 (by omega)]; exact hc 1 _ rfl, by rw [← yF _ _ 2 (by omega)]; exact hc 2 _ rfl, by rw [← yF _ _ 3 (by omega)]; exact hc 3 _ rfl⟩
structure S44 where
  f0 : Int
  f1 : Int
def z44 : S44 := ⟨(0 : Int), (0 : Int)⟩
def k44 : Kd S44 := Kd.iso (Kd.pair (Kd.int .i64) (Kd.int .i64)) (fun x : S44 => (x.f0, x.f1))
theorem k44_open {w : World} {x : S44} {cs : List Value} (h : k44.K w x cs) : cs = [.int .i64 x.f0, .int .i64 x.f1] := by
  obtain ⟨_, _, rfl, rfl, rfl⟩ := h
  exact rfl
theorem k44_openM {w : World} {base : Nat} {ok : Nat → Prop} {x : S44} {cs : List Value} (h : k44.M w base ok x cs) : cs = [.int .i64 x.f0, .int .i64 x.f1] := by
  obtain ⟨_, _, rfl, rfl, rfl⟩ := h
  exact rfl
theorem k44_mk (w : World) (x : S44)  : k44.K w x [.int .i64 x.f0, .int .i64 x.f1] := ⟨[.int .i64 x.f0], [.int .i64 x.f1], rfl, rfl, rfl⟩
theorem k44_mkM (w : World) (base : Nat) (ok : Nat → Prop) (x : S44)  : k44.M w base ok x [.int .i64 x.f0, .int .i64 x.f1] := ⟨[.int .i64 x.f0], [.int .i64 x.f1], rfl, rfl, rfl⟩
theorem k44_mkF (W : World) (ok : Nat → Prop) (x : S44) : Kd.FK k44 W ok x [.int .i64 x.f0, .int .i64 x.f1] := fun W2 _ => k44_mk W2 x
def rd_T44 (xs : List S44) (i : Int) : S44 := xs.getD i.toNat z44
theorem at_T44 {w : World} {A : Option Addr} {n : Nat} {xs : List S44} (h : Kd.C k44 w A n xs) (i : Int) (h0 : 0 ≤ i) (h1 : i < n) : ∃ ad , A = some ad ∧ w.cell? (ad.add (i.toNat * 2)) = some (.int .i64 (rd_T44 xs i).f0) ∧ w.cell? ⟨(ad.add (i.toNat * 2)).block, (ad.add (i.toNat * 2)).off + 1, none⟩ = some (.int .i64 (rd_T44 xs i).f1) := by
  obtain ⟨ad, c, e, _, hK, hc0⟩ := Kd.C_get h z44 i h0 h1
  have hc : ∀ j u, c[j]? = some u → w.cell? (ad.add (i.toNat * 2 + j)) = some u := hc0
  obtain rfl := k44_open hK
  exact ⟨ad, e, hc 0 _ rfl, by rw [← yF _ _ 1 (by omega)]; exact hc 1 _ rfl⟩
structure S46 where
  f0 : S42
  f1 : S44
def z46 : S46 := ⟨z42, z44⟩
def k46 : Kd S46 := Kd.iso (Kd.pair k42 k44) (fun x : S46 => (x.f0, x.f1))
theorem k46_open {w : World} {x : S46} {cs : List Value} (h : k46.K w x cs) : cs = [.int .i64 x.f0.f0, .int .i64 x.f0.f1, .int .i64 x.f0.f2, .int .i64 x.f0.f3, .int .i64 x.f1.f0, .int .i64 x.f1.f1] := by
  obtain ⟨_, _, rfl, s0, s4⟩ := h
  obtain rfl := k42_open s0
  obtain rfl := k44_open s4
  exact rfl
theorem k46_openM {w : World} {base : Nat} {ok : Nat → Prop} {x : S46} {cs : List Value} (h : k46.M w base ok x cs) : cs = [.int .i64 x.f0.f0, .int .i64 x.f0.f1, .int .i64 x.f0.f2, .int .i64 x.f0.f3, .int .i64 x.f1.f0, .int .i64 x.f1.f1] := by
  obtain ⟨_, _, rfl, s0, s4⟩ := h
  obtain rfl := k42_openM s0
  obtain rfl := k44_openM s4
  exact rfl
theorem k46_mk (w : World) (x : S46)  : k46.K w x [.int .i64 x.f0.f0, .int .i64 x.f0.f1, .int .i64 x.f0.f2, .int .i64 x.f0.f3, .int .i64 x.f1.f0, .int .i64 x.f1.f1] := ⟨[.int .i64 x.f0.f0, .int .i64 x.f0.f1, .int .i64 x.f0.f2, .int .i64 x.f0.f3], [.int .i64 x.f1.f0, .int .i64 x.f1.f1], rfl, (k42_mk w x.f0 ), (k44_mk w x.f1 )⟩
theorem k46_mkM (w : World) (base : Nat) (ok : Nat → Prop) (x : S46)  : k46.M w base ok x [.int .i64 x.f0.f0, .int .i64 x.f0.f1, .int .i64 x.f0.f2, .int .i64 x.f0.f3, .int .i64 x.f1.f0, .int .i64 x.f1.f1] := ⟨[.int .i64 x.f0.f0, .int .i64 x.f0.f1, .int .i64 x.f0.f2, .int .i64 x.f0.f3], [.int .i64 x.f1.f0, .int .i64 x.f1.f1], rfl, (k42_mkM w base ok x.f0 ), (k44_mkM w base ok x.f1 )⟩
theorem k46_mkF (W : World) (ok : Nat → Prop) (x : S46) : Kd.FK k46 W ok x [.int .i64 x.f0.f0, .int .i64 x.f0.f1, .int .i64 x.f0.f2, .int .i64 x.f0.f3, .int .i64 x.f1.f0, .int .i64 x.f1.f1] := fun W2 _ => k46_mk W2 x
def rd_T46 (xs : List S46) (i : Int) : S46 := xs.getD i.toNat z46
theorem at_T46 {w : World} {A : Option Addr} {n : Nat} {xs : List S46} (h : Kd.C k46 w A n xs) (i : Int) (h0 : 0 ≤ i) (h1 : i < n) : ∃ ad , A = some ad ∧ w.cell? (ad.add (i.toNat * 6)) = some (.int .i64 (rd_T46 xs i).f0.f0) ∧ w.cell? ⟨(ad.add (i.toNat * 6)).block, (ad.add (i.toNat * 6)).off + 1, none⟩ = some (.int .i64 (rd_T46 xs i).f0.f1) ∧ w.cell? ⟨(ad.add (i.toNat * 6)).block, (ad.add (i.toNat * 6)).off + 2, none⟩ = some (.int .i64 (rd_T46 xs i).f0.f2) ∧ w.cell? ⟨(ad.add (i.toNat * 6)).block, (ad.add (i.toNat * 6)).off + 3, none⟩ = some (.int .i64 (rd_T46 xs i).f0.f3) ∧ w.cell? ⟨(ad.add (i.toNat * 6)).block, (ad.add (i.toNat * 6)).off + 4, none⟩ = some (.int .i64 (rd_T46 xs i).f1.f0) ∧ w.cell? ⟨(ad.add (i.toNat * 6)).block, (ad.add (i.toNat * 6)).off + 5, none⟩ = some (.int .i64 (rd_T46 xs i).f1.f1) := by
  obtain ⟨ad, c, e, _, hK, hc0⟩ := Kd.C_get h z46 i h0 h1
  have hc : ∀ j u, c[j]? = some u → w.cell? (ad.add (i.toNat * 6 + j)) = some u := hc0
  obtain rfl := k46_open hK
  exact ⟨ad, e, hc 0 _ rfl, by rw [← yF _ _ 1 (by omega)]; exact hc 1 _ rfl, by rw [← yF _ _ 2 (by omega)]; exact hc 2 _ rfl, by rw [← yF _ _ 3 (by omega)]; exact hc 3 _ rfl, by rw [← yF _ _ 4 (by omega)]; exact hc 4 _ rfl, by rw [← yF _ _ 5 (by omega)]; exact hc 5 _ rfl⟩
structure S52 where
  f0 : S49
  f1 : S50
def z52 : S52 := ⟨z49, z50⟩
def k52 : Kd S52 := Kd.iso (Kd.pair k49 k50) (fun x : S52 => (x.f0, x.f1))
theorem k52_open {w : World} {x : S52} {cs : List Value} (h : k52.K w x cs) : cs = [.int .i64 x.f0.f0, .int .i64 x.f0.f1, .int .i64 x.f0.f2, .int .i64 x.f0.f3, .int .i64 x.f1.f0, .int .i64 x.f1.f1] := by
  obtain ⟨_, _, rfl, s0, s4⟩ := h
  obtain rfl := k49_open s0
  obtain rfl := k50_open s4
  exact rfl
theorem k52_openM {w : World} {base : Nat} {ok : Nat → Prop} {x : S52} {cs : List Value} (h : k52.M w base ok x cs) : cs = [.int .i64 x.f0.f0, .int .i64 x.f0.f1, .int .i64 x.f0.f2, .int .i64 x.f0.f3, .int .i64 x.f1.f0, .int .i64 x.f1.f1] := by
  obtain ⟨_, _, rfl, s0, s4⟩ := h
  obtain rfl := k49_openM s0
  obtain rfl := k50_openM s4
  exact rfl
theorem k52_mk (w : World) (x : S52)  : k52.K w x [.int .i64 x.f0.f0, .int .i64 x.f0.f1, .int .i64 x.f0.f2, .int .i64 x.f0.f3, .int .i64 x.f1.f0, .int .i64 x.f1.f1] := ⟨[.int .i64 x.f0.f0, .int .i64 x.f0.f1, .int .i64 x.f0.f2, .int .i64 x.f0.f3], [.int .i64 x.f1.f0, .int .i64 x.f1.f1], rfl, (k49_mk w x.f0 ), (k50_mk w x.f1 )⟩
theorem k52_mkM (w : World) (base : Nat) (ok : Nat → Prop) (x : S52)  : k52.M w base ok x [.int .i64 x.f0.f0, .int .i64 x.f0.f1, .int .i64 x.f0.f2, .int .i64 x.f0.f3, .int .i64 x.f1.f0, .int .i64 x.f1.f1] := ⟨[.int .i64 x.f0.f0, .int .i64 x.f0.f1, .int .i64 x.f0.f2, .int .i64 x.f0.f3], [.int .i64 x.f1.f0, .int .i64 x.f1.f1], rfl, (k49_mkM w base ok x.f0 ), (k50_mkM w base ok x.f1 )⟩
theorem k52_mkF (W : World) (ok : Nat → Prop) (x : S52) : Kd.FK k52 W ok x [.int .i64 x.f0.f0, .int .i64 x.f0.f1, .int .i64 x.f0.f2, .int .i64 x.f0.f3, .int .i64 x.f1.f0, .int .i64 x.f1.f1] := fun W2 _ => k52_mk W2 x
def rd_T52 (xs : List S52) (i : Int) : S52 := xs.getD i.toNat z52
theorem at_T52 {w : World} {A : Option Addr} {n : Nat} {xs : List S52} (h : Kd.C k52 w A n xs) (i : Int) (h0 : 0 ≤ i) (h1 : i < n) : ∃ ad , A = some ad ∧ w.cell? (ad.add (i.toNat * 6)) = some (.int .i64 (rd_T52 xs i).f0.f0) ∧ w.cell? ⟨(ad.add (i.toNat * 6)).block, (ad.add (i.toNat * 6)).off + 1, none⟩ = some (.int .i64 (rd_T52 xs i).f0.f1) ∧ w.cell? ⟨(ad.add (i.toNat * 6)).block, (ad.add (i.toNat * 6)).off + 2, none⟩ = some (.int .i64 (rd_T52 xs i).f0.f2) ∧ w.cell? ⟨(ad.add (i.toNat * 6)).block, (ad.add (i.toNat * 6)).off + 3, none⟩ = some (.int .i64 (rd_T52 xs i).f0.f3) ∧ w.cell? ⟨(ad.add (i.toNat * 6)).block, (ad.add (i.toNat * 6)).off + 4, none⟩ = some (.int .i64 (rd_T52 xs i).f1.f0) ∧ w.cell? ⟨(ad.add (i.toNat * 6)).block, (ad.add (i.toNat * 6)).off + 5, none⟩ = some (.int .i64 (rd_T52 xs i).f1.f1) := by
  obtain ⟨ad, c, e, _, hK, hc0⟩ := Kd.C_get h z52 i h0 h1
  have hc : ∀ j u, c[j]? = some u → w.cell? (ad.add (i.toNat * 6 + j)) = some u := hc0
  obtain rfl := k52_open hK
  exact ⟨ad, e, hc 0 _ rfl, by rw [← yF _ _ 1 (by omega)]; exact hc 1 _ rfl, by rw [← yF _ _ 2 (by omega)]; exact hc 2 _ rfl, by rw [← yF _ _ 3 (by omega)]; exact hc 3 _ rfl, by rw [← yF _ _ 4 (by omega)]; exact hc 4 _ rfl, by rw [← yF _ _ 5 (by omega)]; exact hc 5 _ rfl⟩
def rd_L9 (xs : List (List S52)) (i : Int) : (List S52) := xs.getD i.toNat ([] : List S52)
theorem at_L9 {w : World} {A : Option Addr} {n : Nat} {xs : List (List S52)} (h : Kd.C (Kd.slice 52 k52) w A n xs) (i : Int) (h0 : 0 ≤ i) (h1 : i < n) : ∃ ad A0 c0, A = some ad ∧ w.cell? (ad.add i.toNat) = some (.slice A0 (rd_L9 xs i).length c0) ∧ (rd_L9 xs i).length ≤ c0 ∧ k52.C w A0 (rd_L9 xs i).length (rd_L9 xs i) := by
  obtain ⟨ad, c, e, _, hK, hc0⟩ := Kd.C_get h ([] : List S52) i h0 h1
  have hc : ∀ j u, c[j]? = some u → w.cell? (ad.add (i.toNat * 1 + j)) = some u := hc0
  obtain ⟨A0, c0, rfl, l0, g0⟩ := hK
  exact ⟨ad, A0, c0, e, by have hq := hc 0 _ rfl; rwa [Nat.mul_one, Nat.add_zero] at hq, l0, g0⟩
structure S119 where
  f0 : S44
  f1 : Int
def z119 : S119 := ⟨z44, (0 : Int)⟩
def k119 : Kd S119 := Kd.iso (Kd.pair k44 (Kd.int .i64)) (fun x : S119 => (x.f0, x.f1))
theorem k119_open {w : World} {x : S119} {cs : List Value} (h : k119.K w x cs) : cs = [.int .i64 x.f0.f0, .int .i64 x.f0.f1, .int .i64 x.f1] := by
  obtain ⟨_, _, rfl, s0, rfl⟩ := h
  obtain rfl := k44_open s0
  exact rfl
theorem k119_openM {w : World} {base : Nat} {ok : Nat → Prop} {x : S119} {cs : List Value} (h : k119.M w base ok x cs) : cs = [.int .i64 x.f0.f0, .int .i64 x.f0.f1, .int .i64 x.f1] := by
  obtain ⟨_, _, rfl, s0, rfl⟩ := h
  obtain rfl := k44_openM s0
  exact rfl
theorem k119_mk (w : World) (x : S119)  : k119.K w x [.int .i64 x.f0.f0, .int .i64 x.f0.f1, .int .i64 x.f1] := ⟨[.int .i64 x.f0.f0, .int .i64 x.f0.f1], [.int .i64 x.f1], rfl, (k44_mk w x.f0 ), rfl⟩
theorem k119_mkM (w : World) (base : Nat) (ok : Nat → Prop) (x : S119)  : k119.M w base ok x [.int .i64 x.f0.f0, .int .i64 x.f0.f1, .int .i64 x.f1] := ⟨[.int .i64 x.f0.f0, .int .i64 x.f0.f1], [.int .i64 x.f1], rfl, (k44_mkM w base ok x.f0 ), rfl⟩
theorem k119_mkF (W : World) (ok : Nat → Prop) (x : S119) : Kd.FK k119 W ok x [.int .i64 x.f0.f0, .int .i64 x.f0.f1, .int .i64 x.f1] := fun W2 _ => k119_mk W2 x
def rd_T119 (xs : List S119) (i : Int) : S119 := xs.getD i.toNat z119
theorem at_T119 {w : World} {A : Option Addr} {n : Nat} {xs : List S119} (h : Kd.C k119 w A n xs) (i : Int) (h0 : 0 ≤ i) (h1 : i < n) : ∃ ad , A = some ad ∧ w.cell? (ad.add (i.toNat * 3)) = some (.int .i64 (rd_T119 xs i).f0.f0) ∧ w.cell? ⟨(ad.add (i.toNat * 3)).block, (ad.add (i.toNat * 3)).off + 1, none⟩ = some (.int .i64 (rd_T119 xs i).f0.f1) ∧ w.cell? ⟨(ad.add (i.toNat * 3)).block, (ad.add (i.toNat * 3)).off + 2, none⟩ = some (.int .i64 (rd_T119 xs i).f1) := by
  obtain ⟨ad, c, e, _, hK, hc0⟩ := Kd.C_get h z119 i h0 h1
  have hc : ∀ j u, c[j]? = some u → w.cell? (ad.add (i.toNat * 3 + j)) = some u := hc0
  obtain rfl := k119_open hK
  exact ⟨ad, e, hc 0 _ rfl, by rw [← yF _ _ 1 (by omega)]; exact hc 1 _ rfl, by rw [← yF _ _ 2 (by omega)]; exact hc 2 _ rfl⟩
structure S116 where
  f0 : S50
  f1 : Int
def z116 : S116 := ⟨z50, (0 : Int)⟩
def k116 : Kd S116 := Kd.iso (Kd.pair k50 (Kd.int .i64)) (fun x : S116 => (x.f0, x.f1))
theorem k116_open {w : World} {x : S116} {cs : List Value} (h : k116.K w x cs) : cs = [.int .i64 x.f0.f0, .int .i64 x.f0.f1, .int .i64 x.f1] := by
  obtain ⟨_, _, rfl, s0, rfl⟩ := h
  obtain rfl := k50_open s0
  exact rfl
theorem k116_openM {w : World} {base : Nat} {ok : Nat → Prop} {x : S116} {cs : List Value} (h : k116.M w base ok x cs) : cs = [.int .i64 x.f0.f0, .int .i64 x.f0.f1, .int .i64 x.f1] := by
  obtain ⟨_, _, rfl, s0, rfl⟩ := h
  obtain rfl := k50_openM s0
  exact rfl
theorem k116_mk (w : World) (x : S116)  : k116.K w x [.int .i64 x.f0.f0, .int .i64 x.f0.f1, .int .i64 x.f1] := ⟨[.int .i64 x.f0.f0, .int .i64 x.f0.f1], [.int .i64 x.f1], rfl, (k50_mk w x.f0 ), rfl⟩
theorem k116_mkM (w : World) (base : Nat) (ok : Nat → Prop) (x : S116)  : k116.M w base ok x [.int .i64 x.f0.f0, .int .i64 x.f0.f1, .int .i64 x.f1] := ⟨[.int .i64 x.f0.f0, .int .i64 x.f0.f1], [.int .i64 x.f1], rfl, (k50_mkM w base ok x.f0 ), rfl⟩
theorem k116_mkF (W : World) (ok : Nat → Prop) (x : S116) : Kd.FK k116 W ok x [.int .i64 x.f0.f0, .int .i64 x.f0.f1, .int .i64 x.f1] := fun W2 _ => k116_mk W2 x
def rd_T116 (xs : List S116) (i : Int) : S116 := xs.getD i.toNat z116
theorem at_T116 {w : World} {A : Option Addr} {n : Nat} {xs : List S116} (h : Kd.C k116 w A n xs) (i : Int) (h0 : 0 ≤ i) (h1 : i < n) : ∃ ad , A = some ad ∧ w.cell? (ad.add (i.toNat * 3)) = some (.int .i64 (rd_T116 xs i).f0.f0) ∧ w.cell? ⟨(ad.add (i.toNat * 3)).block, (ad.add (i.toNat * 3)).off + 1, none⟩ = some (.int .i64 (rd_T116 xs i).f0.f1) ∧ w.cell? ⟨(ad.add (i.toNat * 3)).block, (ad.add (i.toNat * 3)).off + 2, none⟩ = some (.int .i64 (rd_T116 xs i).f1) := by
  obtain ⟨ad, c, e, _, hK, hc0⟩ := Kd.C_get h z116 i h0 h1
  have hc : ∀ j u, c[j]? = some u → w.cell? (ad.add (i.toNat * 3 + j)) = some u := hc0
  obtain rfl := k116_open hK
  exact ⟨ad, e, hc 0 _ rfl, by rw [← yF _ _ 1 (by omega)]; exact hc 1 _ rfl, by rw [← yF _ _ 2 (by omega)]; exact hc 2 _ rfl⟩
def wR.f (l0 : List Int) (a1 : Int) : Option (Int) := if (wrap64 (a1 - (l0.length : Int))) < 0 then (some (-1)) else (some (wrap64 (a1 - (l0.length : Int))))
def wM.f (a0_0 : Int) (a0_1 : Int) (a0_2 : Int) (a0_3 : Int) (l0_4 : List Int) (a1 : Int) : Option (Int) := (wR.f l0_4 a1).bind fun t102 => (if t102 < 0 then (some (-1)) else (some t102))
def wS.f (a0_0 : Int) (a0_1 : Int) (a0_2 : Int) : Option (Int × Int × Int) := some (a0_0, a0_1, a0_2)
def xC.l0 : Nat → List Int → List Int → Int → Option (List Int)
 | 0, _, _, _ => none
 | k + 1, x0, x3, x4 => if x4 < (x0.length : Int) then (if 0 ≤ x4 then (if x4 < (x3.length : Int) then (xC.l0 k x0 (x3.set (x4 : Int).toNat (rd x0 x4)) (wrap64 (x4 + 1))) else (none)) else (none)) else (some x3)
def xC.f (k : Nat) (l0 : List Int) : Option (List Int) := if 0 ≤ (l0.length : Int) then (if ((l0.length : Int) : Int).toNat ≤ 35184372088832 then (xC.l0 k l0 (List.replicate ((l0.length : Int) : Int).toNat 0) 0) else (none)) else (none)
theorem xC.mono_l : ∀ k, (∀ y0 y1 y2, LeO (xC.l0 k y0 y1 y2) (xC.l0 (k + 1) y0 y1 y2))
 | 0 => fun _ _ _ r h => by simp [xC.l0] at h
 | k + 1 => by
  have ih0 := xC.mono_l k
  ·
   intro y0 y1 y2
   unfold xC.l0
   repeat' first
   | (with_reducible exact ih0 _ _ _)
   | (with_reducible exact LeO.refl _)
   | (with_reducible exact LeO.none _)
   | (with_reducible refine LeO.ite ?_ ?_)
   | (with_reducible refine LeO.bind ?_ (fun _ => ?_))
   | refine LeO.ite ?_ ?_
   | refine LeO.bind ?_ (fun _ => ?_)
theorem xC.mono : ∀ a0 k, LeO (xC.f k a0) (xC.f (k + 1) a0) := by
 intro a0 k
 have ih0 := xC.mono_l k
 unfold xC.f
 repeat' first
   | (with_reducible exact ih0 _ _ _)
   | (with_reducible exact LeO.refl _)
   | (with_reducible exact LeO.none _)
   | (with_reducible refine LeO.ite ?_ ?_)
   | (with_reducible refine LeO.bind ?_ (fun _ => ?_))
   | refine LeO.ite ?_ ?_
   | refine LeO.bind ?_ (fun _ => ?_)
def yZ.f (k : Nat) (a0_0 : Int) (a0_1 : Int) (a0_2 : Int) (a0_3 : Int) (l0_4 : List Int) : Option (Int × Int × Int × Int × List Int) := (wS.f a0_1 a0_2 a0_3).bind fun bt264 => ((xC.f k l0_4).bind fun t267 => (some (a0_0, bt264.1, bt264.2.1, bt264.2.2, t267)))
theorem yZ.mono : ∀ a0 a1 a2 a3 a4 k, LeO (yZ.f k a0 a1 a2 a3 a4) (yZ.f (k + 1) a0 a1 a2 a3 a4) := by
 intro a0 a1 a2 a3 a4 k
 unfold yZ.f
 repeat' first
   | (with_reducible exact xC.mono _ _)
   | (with_reducible exact LeO.refl _)
   | (with_reducible exact LeO.none _)
   | (with_reducible refine LeO.ite ?_ ?_)
   | (with_reducible refine LeO.bind ?_ (fun _ => ?_))
   | refine LeO.ite ?_ ?_
   | refine LeO.bind ?_ (fun _ => ?_)
def yN.l0 : Nat → List Int → List Int → Int → Option (Bool)
 | 0, _, _, _ => none
 | k + 1, x0, x1, x5 => if x5 < (x0.length : Int) then (if 0 ≤ x5 then (if x5 < (x1.length : Int) then (if (rd x0 x5) = (rd x1 x5) then (yN.l0 k x0 x1 (wrap64 (x5 + 1))) else (some false)) else (none)) else (none)) else (some true)
def yN.f (k : Nat) (l0 : List Int) (l1 : List Int) : Option (Bool) := if (l0.length : Int) = (l1.length : Int) then (yN.l0 k l0 l1 0) else (some false)
theorem yN.mono_l : ∀ k, (∀ y0 y1 y2, LeO (yN.l0 k y0 y1 y2) (yN.l0 (k + 1) y0 y1 y2))
 | 0 => fun _ _ _ r h => by simp [yN.l0] at h
 | k + 1 => by
  have ih0 := yN.mono_l k
  ·
   intro y0 y1 y2
   unfold yN.l0
   repeat' first
   | (with_reducible exact ih0 _ _ _)
   | (with_reducible exact LeO.refl _)
   | (with_reducible exact LeO.none _)
   | (with_reducible refine LeO.ite ?_ ?_)
   | (with_reducible refine LeO.bind ?_ (fun _ => ?_))
   | refine LeO.ite ?_ ?_
   | refine LeO.bind ?_ (fun _ => ?_)
theorem yN.mono : ∀ a0 a1 k, LeO (yN.f k a0 a1) (yN.f (k + 1) a0 a1) := by
 intro a0 a1 k
 have ih0 := yN.mono_l k
 unfold yN.f
 repeat' first
   | (with_reducible exact ih0 _ _ _)
   | (with_reducible exact LeO.refl _)
   | (with_reducible exact LeO.none _)
   | (with_reducible refine LeO.ite ?_ ?_)
   | (with_reducible refine LeO.bind ?_ (fun _ => ?_))
   | refine LeO.ite ?_ ?_
   | refine LeO.bind ?_ (fun _ => ?_)
def wF.f (a0_0 : Int) (a0_1 : Int) (a0_2 : Int) (a1_0 : Int) (a1_1 : Int) (a1_2 : Int) : Option (Bool) := if a0_0 = a1_0 then (if a0_1 = a1_1 then (if a0_2 = a1_2 then (some true) else (some false)) else (some false)) else (some false)
def xJ.f (k : Nat) (a0_0 : Int) (a0_1 : Int) (a0_2 : Int) (a0_3 : Int) (l0_4 : List Int) (a1_0 : Int) (a1_1 : Int) (a1_2 : Int) (a1_3 : Int) (l1_4 : List Int) : Option (Bool) := if a0_0 = a1_0 then ((wF.f a0_1 a0_2 a0_3 a1_1 a1_2 a1_3).bind fun t441 => (if t441 = true then ((yN.f k l0_4 l1_4).bind fun t442 => (if t442 = true then (some true) else (some false))) else (some false))) else (some false)
theorem xJ.mono : ∀ a0 a1 a2 a3 a4 a5 a6 a7 a8 a9 k, LeO (xJ.f k a0 a1 a2 a3 a4 a5 a6 a7 a8 a9) (xJ.f (k + 1) a0 a1 a2 a3 a4 a5 a6 a7 a8 a9) := by
 intro a0 a1 a2 a3 a4 a5 a6 a7 a8 a9 k
 unfold xJ.f
 repeat' first
   | (with_reducible exact yN.mono _ _ _)
   | (with_reducible exact LeO.refl _)
   | (with_reducible exact LeO.none _)
   | (with_reducible refine LeO.ite ?_ ?_)
   | (with_reducible refine LeO.bind ?_ (fun _ => ?_))
   | refine LeO.ite ?_ ?_
   | refine LeO.bind ?_ (fun _ => ?_)
def wQ.f (a0 : Int) : Option (Bool) := if a0 = 0 then (some true) else (some (a0 == 1))
def xI.f (a0 : Int) (a1 : Int) (a2 : Int) : Option (Bool) := if a0 ≥ a1 then (some (decide (a0 ≤ a2))) else (some false)
def wH.f (a0_0 : Int) (a0_1 : Int) (a0_2 : Int) : Option (Bool) := (xI.f a0_0 1 64).bind fun t104 => (if t104 = true then ((xI.f a0_2 1 64).bind fun t105 => (if t105 = true then ((xI.f a0_1 0 (wrap64 (a0_0 - 1))).bind fun t106 => (if t106 = true then (some (decide ((wrap64 (a0_0 * a0_2)) ≤ 64))) else (some false))) else (some false))) else (some false))
def wL.f (a0 : Int) (a1_0 : Int) (a1_1 : Int) (a1_2 : Int) : Option (Int) := (wQ.f a0).bind fun t108 => (if t108 = true then ((wH.f a1_0 a1_1 a1_2).bind fun t109 => (if t109 = true then (some 0) else (some 1))) else (some 1))
def yY.l0 : Nat → List Int → Int → Int → Int → Int → Option (Bool)
 | 0, _, _, _, _, _ => none
 | k + 1, x0, x1, x2, x3, x9 => if x9 < (x0.length : Int) then (if 0 ≤ x9 then ((xI.f (rd x0 x9) x2 x3).bind fun t111 => (if t111 = true then (yY.l0 k x0 x1 x2 x3 (wrap64 (x9 + 1))) else (some false))) else (none)) else (some (decide ((x0.length : Int) ≤ x1)))
def yY.f (k : Nat) (l0 : List Int) (a1 : Int) (a2 : Int) (a3 : Int) : Option (Bool) := yY.l0 k l0 a1 a2 a3 0
theorem yY.mono_l : ∀ k, (∀ y0 y1 y2 y3 y4, LeO (yY.l0 k y0 y1 y2 y3 y4) (yY.l0 (k + 1) y0 y1 y2 y3 y4))
 | 0 => fun _ _ _ _ _ r h => by simp [yY.l0] at h
 | k + 1 => by
  have ih0 := yY.mono_l k
  ·
   intro y0 y1 y2 y3 y4
   unfold yY.l0
   repeat' first
   | (with_reducible exact ih0 _ _ _ _ _)
   | (with_reducible exact LeO.refl _)
   | (with_reducible exact LeO.none _)
   | (with_reducible refine LeO.ite ?_ ?_)
   | (with_reducible refine LeO.bind ?_ (fun _ => ?_))
   | refine LeO.ite ?_ ?_
   | refine LeO.bind ?_ (fun _ => ?_)
theorem yY.mono : ∀ a0 a1 a2 a3 k, LeO (yY.f k a0 a1 a2 a3) (yY.f (k + 1) a0 a1 a2 a3) := by
 intro a0 a1 a2 a3 k
 have ih0 := yY.mono_l k
 unfold yY.f
 repeat' first
   | (with_reducible exact ih0 _ _ _ _ _)
   | (with_reducible exact LeO.refl _)
   | (with_reducible exact LeO.none _)
   | (with_reducible refine LeO.ite ?_ ?_)
   | (with_reducible refine LeO.bind ?_ (fun _ => ?_))
   | refine LeO.ite ?_ ?_
   | refine LeO.bind ?_ (fun _ => ?_)
def xN.f (k : Nat) (a0_0 : Int) (a0_1 : Int) (a0_2 : Int) (a0_3 : Int) (l0_4 : List Int) : Option (Bool) := (wL.f a0_0 a0_1 a0_2 a0_3).bind fun t113 => (if t113 = 0 then (if (l0_4.length : Int) = (wrap64 (a0_1 * a0_3)) then ((yY.f k l0_4 64 0 9).bind fun t114 => (some t114)) else (some false)) else (some false))
theorem xN.mono : ∀ a0 a1 a2 a3 a4 k, LeO (xN.f k a0 a1 a2 a3 a4) (xN.f (k + 1) a0 a1 a2 a3 a4) := by
 intro a0 a1 a2 a3 a4 k
 unfold xN.f
 repeat' first
   | (with_reducible exact yY.mono _ _ _ _ _)
   | (with_reducible exact LeO.refl _)
   | (with_reducible exact LeO.none _)
   | (with_reducible refine LeO.ite ?_ ?_)
   | (with_reducible refine LeO.bind ?_ (fun _ => ?_))
   | refine LeO.ite ?_ ?_
   | refine LeO.bind ?_ (fun _ => ?_)
mutual
def yO.l0 : Nat → List (S50) → Int → Int → Int → Int → Option ((List (S50)))
 | 0, _, _, _, _, _ => none
 | k + 1, x3, x4, x116000, x116001, x116002 => if x4 < x116000 then (yO.l1 k x3 x4 0 x116000 x116001 x116002) else (some x3)
def yO.l1 : Nat → List (S50) → Int → Int → Int → Int → Int → Option ((List (S50)))
 | 0, _, _, _, _, _, _ => none
 | k + 1, x3, x4, x5, x116000, x116001, x116002 => if x5 < x116002 then (if x3.length < 8796093022208 then (yO.l1 k (x3 ++ [(⟨x4, x5⟩ : S50)]) x4 (wrap64 (x5 + 1)) x116000 x116001 x116002) else (none)) else (yO.l0 k x3 (wrap64 (x4 + 1)) x116000 x116001 x116002)
end
def yO.f (k : Nat) (a0_0 : Int) (a0_1 : Int) (a0_2 : Int) : Option ((List (S50))) := yO.l0 k (([] : List (S50))) 0 a0_0 a0_1 a0_2
theorem yO.mono_l : ∀ k, (∀ y0 y1 y2 y3 y4, LeO (yO.l0 k y0 y1 y2 y3 y4) (yO.l0 (k + 1) y0 y1 y2 y3 y4)) ∧ (∀ y0 y1 y2 y3 y4 y5, LeO (yO.l1 k y0 y1 y2 y3 y4 y5) (yO.l1 (k + 1) y0 y1 y2 y3 y4 y5))
 | 0 => ⟨fun _ _ _ _ _ r h => by simp [yO.l0] at h, fun _ _ _ _ _ _ r h => by simp [yO.l1] at h⟩
 | k + 1 => by
  obtain ⟨ih0, ih1⟩ := yO.mono_l k
  refine ⟨?_, ?_⟩
  ·
   intro y0 y1 y2 y3 y4
   unfold yO.l0
   repeat' first
   | (with_reducible exact ih0 _ _ _ _ _)
   | (with_reducible exact ih1 _ _ _ _ _ _)
   | (with_reducible exact LeO.refl _)
   | (with_reducible exact LeO.none _)
   | (with_reducible refine LeO.ite ?_ ?_)
   | (with_reducible refine LeO.bind ?_ (fun _ => ?_))
   | refine LeO.ite ?_ ?_
   | refine LeO.bind ?_ (fun _ => ?_)
  ·
   intro y0 y1 y2 y3 y4 y5
   unfold yO.l1
   repeat' first
   | (with_reducible exact ih0 _ _ _ _ _)
   | (with_reducible exact ih1 _ _ _ _ _ _)
   | (with_reducible exact LeO.refl _)
   | (with_reducible exact LeO.none _)
   | (with_reducible refine LeO.ite ?_ ?_)
   | (with_reducible refine LeO.bind ?_ (fun _ => ?_))
   | refine LeO.ite ?_ ?_
   | refine LeO.bind ?_ (fun _ => ?_)
theorem yO.mono : ∀ a0 a1 a2 k, LeO (yO.f k a0 a1 a2) (yO.f (k + 1) a0 a1 a2) := by
 intro a0 a1 a2 k
 obtain ⟨ih0, ih1⟩ := yO.mono_l k
 unfold yO.f
 repeat' first
   | (with_reducible exact ih0 _ _ _ _ _)
   | (with_reducible exact ih1 _ _ _ _ _ _)
   | (with_reducible exact LeO.refl _)
   | (with_reducible exact LeO.none _)
   | (with_reducible refine LeO.ite ?_ ?_)
   | (with_reducible refine LeO.bind ?_ (fun _ => ?_))
   | refine LeO.ite ?_ ?_
   | refine LeO.bind ?_ (fun _ => ?_)
def wP.f (a0_0 : Int) (a0_1 : Int) (a0_2 : Int) : Option ((List (S50))) := some (([(⟨a0_0, 0⟩ : S50), (⟨a0_1, a0_2⟩ : S50)] : List (S50)))
def wW.f (a0_0 : Int) (a0_1 : Int) (a0_2 : Int) (a0_3 : Int) (a1_0 : Int) (a1_1 : Int) : Option (Int × Int) := some (wrap64 ((wrap64 (a0_0 * a1_0)) + (wrap64 (a0_1 * a1_1))), wrap64 ((wrap64 (a0_2 * a1_0)) + (wrap64 (a0_3 * a1_1))))
def wX.f (a0_0 : Int) (a0_1 : Int) (a1_0 : Int) (a1_1 : Int) : Option (Int × Int) := some (wrap64 (a0_0 + a1_0), wrap64 (a0_1 + a1_1))
def xZ.f (a0_0 : Int) (a0_1 : Int) (a0_2 : Int) (a0_3 : Int) (a0_4 : Int) (a0_5 : Int) (a1_0 : Int) (a1_1 : Int) : Option (Int × Int) := (wW.f a0_0 a0_1 a0_2 a0_3 a1_0 a1_1).bind fun bt135 => ((wX.f bt135.1 bt135.2 a0_4 a0_5).bind fun bt137 => (some (bt137.1, bt137.2)))
def xU.f (a0 : Int) (a1 : Int) : Option (Int) := if a1 = 0 then (none) else (if (Int.tmod a0 a1) < 0 then (some (wrap64 ((Int.tmod a0 a1) + a1))) else (some (Int.tmod a0 a1)))
def wJ.f (a0_0 : Int) (a0_1 : Int) (a0_2 : Int) (a1_0 : Int) (a1_1 : Int) : Option (Int × Int) := (xU.f a1_1 a0_2).bind fun t142 => (if a0_2 = 0 then (none) else ((xU.f (wrap64 (a1_0 - (wrap64 ((wrap64 (Int.tdiv (wrap64 (a1_1 - t142)) a0_2)) * a0_1)))) a0_0).bind fun t143 => (some (t143, t142))))
def wT.f (a0_0 : Int) (a0_1 : Int) (a0_2 : Int) (a1_0 : Int) (a1_1 : Int) : Option (Int) := (wJ.f a0_0 a0_1 a0_2 a1_0 a1_1).bind fun bt146 => (some (wrap64 ((wrap64 (bt146.1 * a0_2)) + bt146.2)))
def xY.f (a0_0 : Int) (a0_1 : Int) (a0_2 : Int) (a0_3 : Int) (l0_4 : List Int) (a1_0 : Int) (a1_1 : Int) : Option (Int) := (wT.f a0_1 a0_2 a0_3 a1_0 a1_1).bind fun t150 => (if 0 ≤ t150 then (if t150 < (l0_4.length : Int) then (some (rd l0_4 t150)) else (none)) else (none))
def yW.l0 : Nat → List (S50) → Int → Int → Int → Int → Int → List Int → Int → Int → Int → Int → Int → Int → Option (Bool)
 | 0, _, _, _, _, _, _, _, _, _, _, _, _, _ => none
 | k + 1, x5, x6, x153000, x153001, x153002, x153003, x153004, x154000, x154001, x154002, x154003, x154004, x154005 => if x6 < (x5.length : Int) then (if 0 ≤ x6 then ((xZ.f x154000 x154001 x154002 x154003 x154004 x154005 ((rd_T50 x5 x6).f0) ((rd_T50 x5 x6).f1)).bind fun bt158 => ((xY.f x153000 x153001 x153002 x153003 x153004 bt158.1 bt158.2).bind fun t160 => ((xY.f x153000 x153001 x153002 x153003 x153004 ((rd_T50 x5 x6).f0) ((rd_T50 x5 x6).f1)).bind fun t162 => (if t160 = t162 then (yW.l0 k x5 (wrap64 (x6 + 1)) x153000 x153001 x153002 x153003 x153004 x154000 x154001 x154002 x154003 x154004 x154005) else (some false))))) else (none)) else (some true)
def yW.f (k : Nat) (a0_0 : Int) (a0_1 : Int) (a0_2 : Int) (a0_3 : Int) (l0_4 : List Int) (a1_0 : Int) (a1_1 : Int) (a1_2 : Int) (a1_3 : Int) (a1_4 : Int) (a1_5 : Int) : Option (Bool) := (yO.f k a0_1 a0_2 a0_3).bind fun t154 => (yW.l0 k t154 0 a0_0 a0_1 a0_2 a0_3 l0_4 a1_0 a1_1 a1_2 a1_3 a1_4 a1_5)
theorem yW.mono_l : ∀ k, (∀ y0 y1 y2 y3 y4 y5 y6 y7 y8 y9 y10 y11 y12, LeO (yW.l0 k y0 y1 y2 y3 y4 y5 y6 y7 y8 y9 y10 y11 y12) (yW.l0 (k + 1) y0 y1 y2 y3 y4 y5 y6 y7 y8 y9 y10 y11 y12))
 | 0 => fun _ _ _ _ _ _ _ _ _ _ _ _ _ r h => by simp [yW.l0] at h
 | k + 1 => by
  have ih0 := yW.mono_l k
  ·
   intro y0 y1 y2 y3 y4 y5 y6 y7 y8 y9 y10 y11 y12
   unfold yW.l0
   repeat' first
   | (with_reducible exact ih0 _ _ _ _ _ _ _ _ _ _ _ _ _)
   | (with_reducible exact yO.mono _ _ _ _)
   | (with_reducible exact LeO.refl _)
   | (with_reducible exact LeO.none _)
   | (with_reducible refine LeO.ite ?_ ?_)
   | (with_reducible refine LeO.bind ?_ (fun _ => ?_))
   | refine LeO.ite ?_ ?_
   | refine LeO.bind ?_ (fun _ => ?_)
theorem yW.mono : ∀ a0 a1 a2 a3 a4 a5 a6 a7 a8 a9 a10 k, LeO (yW.f k a0 a1 a2 a3 a4 a5 a6 a7 a8 a9 a10) (yW.f (k + 1) a0 a1 a2 a3 a4 a5 a6 a7 a8 a9 a10) := by
 intro a0 a1 a2 a3 a4 a5 a6 a7 a8 a9 a10 k
 have ih0 := yW.mono_l k
 unfold yW.f
 repeat' first
   | (with_reducible exact ih0 _ _ _ _ _ _ _ _ _ _ _ _ _)
   | (with_reducible exact yO.mono _ _ _ _)
   | (with_reducible exact LeO.refl _)
   | (with_reducible exact LeO.none _)
   | (with_reducible refine LeO.ite ?_ ?_)
   | (with_reducible refine LeO.bind ?_ (fun _ => ?_))
   | refine LeO.ite ?_ ?_
   | refine LeO.bind ?_ (fun _ => ?_)
def wY.f  : Option (Int × Int × Int × Int) := some (1, 0, 0, 1)
def xG.f : Nat → Int → Int → Option (Int)
 | 0, _, _ => none
 | k + 1, a0, a1 => if a1 = 0 then (some (mx a0 (wrap64 (-a0)))) else ((xG.f k a1 (Int.tmod a0 a1)).bind fun t164 => (some t164))
theorem xG.mono_l : ∀ k, (∀ y0 y1, LeO (xG.f k y0 y1) (xG.f (k + 1) y0 y1))
 | 0 => fun _ _ r h => by simp [xG.f] at h
 | k + 1 => by
  have ih0 := xG.mono_l k
  ·
   intro y0 y1
   unfold xG.f
   repeat' first
   | (with_reducible exact ih0 _ _)
   | (with_reducible exact LeO.refl _)
   | (with_reducible exact LeO.none _)
   | (with_reducible refine LeO.ite ?_ ?_)
   | (with_reducible refine LeO.bind ?_ (fun _ => ?_))
   | refine LeO.ite ?_ ?_
   | refine LeO.bind ?_ (fun _ => ?_)
theorem xG.mono : ∀ a0 a1 k, LeO (xG.f k a0 a1) (xG.f (k + 1) a0 a1) := by
 intro a0 a1 k
 have ih0 := xG.mono_l k
 exact ih0 a0 a1
def wV.f (a0_0 : Int) (a0_1 : Int) (a1 : Int) : Option (Int × Int) := some (wrap64 (a1 * a0_0), wrap64 (a1 * a0_1))
mutual
def yJ.l0 : Nat → List (S50) → Int → Int → Int → Int → Option (Int × Int × Int)
 | 0, _, _, _, _, _ => none
 | k + 1, x0, x4, x5, x169000, x169001 => if x5 < (x0.length : Int) then (if 0 ≤ x5 then (yJ.l1 k x0 x4 x5 x169000 x169001 ((rd_T50 x0 x5).f0) ((rd_T50 x0 x5).f1)) else (none)) else (if x169001 < 0 then ((wV.f x169000 x169001 (-1)).bind fun bt174 => (if x4 > 0 then ((xU.f bt174.1 x4).bind fun t176 => (some (x4, t176, bt174.2))) else (some (x4, bt174.1, bt174.2)))) else (if x4 > 0 then ((xU.f x169000 x4).bind fun t177 => (some (x4, t177, x169001))) else (some (x4, x169000, x169001))))
def yJ.l1 : Nat → List (S50) → Int → Int → Int → Int → Int → Int → Option (Int × Int × Int)
 | 0, _, _, _, _, _, _, _ => none
 | k + 1, x0, x4, x5, x169000, x169001, x171000, x171001 => if x171001 = 0 then ((xG.f k x4 x171000).bind fun t172 => (if t172 > 0 then ((xU.f x169000 t172).bind fun t173 => (yJ.l0 k x0 t172 (wrap64 (x5 + 1)) t173 x169001)) else (yJ.l0 k x0 t172 (wrap64 (x5 + 1)) x169000 x169001))) else (yJ.l1 k x0 x4 x5 x171000 x171001 (wrap64 (x169000 - (wrap64 ((wrap64 (Int.tdiv x169001 x171001)) * x171000)))) (wrap64 (x169001 - (wrap64 ((wrap64 (Int.tdiv x169001 x171001)) * x171001)))))
end
def yJ.f (k : Nat) (l0 : List (S50)) : Option (Int × Int × Int) := yJ.l0 k l0 0 0 0 0
theorem yJ.mono_l : ∀ k, (∀ y0 y1 y2 y3 y4, LeO (yJ.l0 k y0 y1 y2 y3 y4) (yJ.l0 (k + 1) y0 y1 y2 y3 y4)) ∧ (∀ y0 y1 y2 y3 y4 y5 y6, LeO (yJ.l1 k y0 y1 y2 y3 y4 y5 y6) (yJ.l1 (k + 1) y0 y1 y2 y3 y4 y5 y6))
 | 0 => ⟨fun _ _ _ _ _ r h => by simp [yJ.l0] at h, fun _ _ _ _ _ _ _ r h => by simp [yJ.l1] at h⟩
 | k + 1 => by
  obtain ⟨ih0, ih1⟩ := yJ.mono_l k
  refine ⟨?_, ?_⟩
  ·
   intro y0 y1 y2 y3 y4
   unfold yJ.l0
   repeat' first
   | (with_reducible exact ih0 _ _ _ _ _)
   | (with_reducible exact ih1 _ _ _ _ _ _ _)
   | (with_reducible exact xG.mono _ _ _)
   | (with_reducible exact LeO.refl _)
   | (with_reducible exact LeO.none _)
   | (with_reducible refine LeO.ite ?_ ?_)
   | (with_reducible refine LeO.bind ?_ (fun _ => ?_))
   | refine LeO.ite ?_ ?_
   | refine LeO.bind ?_ (fun _ => ?_)
  ·
   intro y0 y1 y2 y3 y4 y5 y6
   unfold yJ.l1
   repeat' first
   | (with_reducible exact ih0 _ _ _ _ _)
   | (with_reducible exact ih1 _ _ _ _ _ _ _)
   | (with_reducible exact xG.mono _ _ _)
   | (with_reducible exact LeO.refl _)
   | (with_reducible exact LeO.none _)
   | (with_reducible refine LeO.ite ?_ ?_)
   | (with_reducible refine LeO.bind ?_ (fun _ => ?_))
   | refine LeO.ite ?_ ?_
   | refine LeO.bind ?_ (fun _ => ?_)
theorem yJ.mono : ∀ a0 k, LeO (yJ.f k a0) (yJ.f (k + 1) a0) := by
 intro a0 k
 obtain ⟨ih0, ih1⟩ := yJ.mono_l k
 unfold yJ.f
 repeat' first
   | (with_reducible exact ih0 _ _ _ _ _)
   | (with_reducible exact ih1 _ _ _ _ _ _ _)
   | (with_reducible exact xG.mono _ _ _)
   | (with_reducible exact LeO.refl _)
   | (with_reducible exact LeO.none _)
   | (with_reducible refine LeO.ite ?_ ?_)
   | (with_reducible refine LeO.bind ?_ (fun _ => ?_))
   | refine LeO.ite ?_ ?_
   | refine LeO.bind ?_ (fun _ => ?_)
def yX.l0 : Nat → List (S50) → List (S50) → Int → Int → Int → Int → Int → List Int → Option (Int × Int × Int)
 | 0, _, _, _, _, _, _, _, _ => none
 | k + 1, x3, x4, x5, x179000, x179001, x179002, x179003, x179004 => if x5 < (x3.length : Int) then ((wY.f).bind fun bt189 => (if 0 ≤ x5 then ((yW.f k x179000 x179001 x179002 x179003 x179004 bt189.1 bt189.2.1 bt189.2.2.1 bt189.2.2.2 ((rd_T50 x3 x5).f0) ((rd_T50 x3 x5).f1)).bind fun t194 => (if t194 = true then (if x4.length < 8796093022208 then (yX.l0 k x3 (x4 ++ [(⟨(rd_T50 x3 x5).f0, (rd_T50 x3 x5).f1⟩ : S50)]) (wrap64 (x5 + 1)) x179000 x179001 x179002 x179003 x179004) else (none)) else (yX.l0 k x3 x4 (wrap64 (x5 + 1)) x179000 x179001 x179002 x179003 x179004))) else (none))) else ((yJ.f k x4).bind fun bt186 => (some (bt186.1, bt186.2.1, bt186.2.2)))
def yX.f (k : Nat) (a0_0 : Int) (a0_1 : Int) (a0_2 : Int) (a0_3 : Int) (l0_4 : List Int) : Option (Int × Int × Int) := (yO.f k a0_1 a0_2 a0_3).bind fun t180 => ((wP.f a0_1 a0_2 a0_3).bind fun t183 => (yX.l0 k t180 t183 0 a0_0 a0_1 a0_2 a0_3 l0_4))
theorem yX.mono_l : ∀ k, (∀ y0 y1 y2 y3 y4 y5 y6 y7, LeO (yX.l0 k y0 y1 y2 y3 y4 y5 y6 y7) (yX.l0 (k + 1) y0 y1 y2 y3 y4 y5 y6 y7))
 | 0 => fun _ _ _ _ _ _ _ _ r h => by simp [yX.l0] at h
 | k + 1 => by
  have ih0 := yX.mono_l k
  ·
   intro y0 y1 y2 y3 y4 y5 y6 y7
   unfold yX.l0
   repeat' first
   | (with_reducible exact ih0 _ _ _ _ _ _ _ _)
   | (with_reducible exact yO.mono _ _ _ _)
   | (with_reducible exact yJ.mono _ _)
   | (with_reducible exact yW.mono _ _ _ _ _ _ _ _ _ _ _ _)
   | (with_reducible exact LeO.refl _)
   | (with_reducible exact LeO.none _)
   | (with_reducible refine LeO.ite ?_ ?_)
   | (with_reducible refine LeO.bind ?_ (fun _ => ?_))
   | refine LeO.ite ?_ ?_
   | refine LeO.bind ?_ (fun _ => ?_)
theorem yX.mono : ∀ a0 a1 a2 a3 a4 k, LeO (yX.f k a0 a1 a2 a3 a4) (yX.f (k + 1) a0 a1 a2 a3 a4) := by
 intro a0 a1 a2 a3 a4 k
 have ih0 := yX.mono_l k
 unfold yX.f
 repeat' first
   | (with_reducible exact ih0 _ _ _ _ _ _ _ _)
   | (with_reducible exact yO.mono _ _ _ _)
   | (with_reducible exact yJ.mono _ _)
   | (with_reducible exact yW.mono _ _ _ _ _ _ _ _ _ _ _ _)
   | (with_reducible exact LeO.refl _)
   | (with_reducible exact LeO.none _)
   | (with_reducible refine LeO.ite ?_ ?_)
   | (with_reducible refine LeO.bind ?_ (fun _ => ?_))
   | refine LeO.ite ?_ ?_
   | refine LeO.bind ?_ (fun _ => ?_)
def yU.j0 : Nat → Bool → Bool → Int → Int → Int → Int → List Int → Option (Int × Int × Int × Int)
 | 0, _, _, _, _, _, _, _ => none
 | k + 1, x1, x13, x200000, x200001, x200002, x200003, x200004 => if x13 = true then (some (0, 0, 0, 1)) else (if x1 = true then ((yX.f k x200000 x200001 x200002 x200003 x200004).bind fun bt202 => (some (bt202.1, bt202.2.1, bt202.2.2, 0))) else (some (0, 0, 0, 2)))
def yU.f (k : Nat) (a0_0 : Int) (a0_1 : Int) (a0_2 : Int) (a0_3 : Int) (l0_4 : List Int) (a1 : Bool) : Option (Int × Int × Int × Int) := (xN.f k a0_0 a0_1 a0_2 a0_3 l0_4).bind fun t201 => (if t201 = true then (yU.j0 k a1 (a0_0 != 0) a0_0 a0_1 a0_2 a0_3 l0_4) else (yU.j0 k a1 true a0_0 a0_1 a0_2 a0_3 l0_4))
theorem yU.mono_l : ∀ k, (∀ y0 y1 y2 y3 y4 y5 y6, LeO (yU.j0 k y0 y1 y2 y3 y4 y5 y6) (yU.j0 (k + 1) y0 y1 y2 y3 y4 y5 y6))
 | 0 => fun _ _ _ _ _ _ _ r h => by simp [yU.j0] at h
 | k + 1 => by
  have ih0 := yU.mono_l k
  ·
   intro y0 y1 y2 y3 y4 y5 y6
   unfold yU.j0
   repeat' first
   | (with_reducible exact ih0 _ _ _ _ _ _ _)
   | (with_reducible exact xN.mono _ _ _ _ _ _)
   | (with_reducible exact yX.mono _ _ _ _ _ _)
   | (with_reducible exact LeO.refl _)
   | (with_reducible exact LeO.none _)
   | (with_reducible refine LeO.ite ?_ ?_)
   | (with_reducible refine LeO.bind ?_ (fun _ => ?_))
   | refine LeO.ite ?_ ?_
   | refine LeO.bind ?_ (fun _ => ?_)
theorem yU.mono : ∀ a0 a1 a2 a3 a4 a5 k, LeO (yU.f k a0 a1 a2 a3 a4 a5) (yU.f (k + 1) a0 a1 a2 a3 a4 a5) := by
 intro a0 a1 a2 a3 a4 a5 k
 have ih0 := yU.mono_l k
 unfold yU.f
 repeat' first
   | (with_reducible exact ih0 _ _ _ _ _ _ _)
   | (with_reducible exact xN.mono _ _ _ _ _ _)
   | (with_reducible exact yX.mono _ _ _ _ _ _)
   | (with_reducible exact LeO.refl _)
   | (with_reducible exact LeO.none _)
   | (with_reducible refine LeO.ite ?_ ?_)
   | (with_reducible refine LeO.bind ?_ (fun _ => ?_))
   | refine LeO.ite ?_ ?_
   | refine LeO.bind ?_ (fun _ => ?_)
theorem eqA50 (d : Nat) (w : World) (x0 y0 : Int) (x1 y1 : Int) :
  (Op.equalIn (d + 2) 50 (.agg #[.int .i64 x0, .int .i64 x1]) (.agg #[.int .i64 y0, .int .i64 y1])).run Try.prog w = .ok (x0 == y0 && (x1 == y1)) w := by
 refine eqA_of Try.underlying50 (by kernel_rfl) ?_
 refine eqf_cons (by rfl) (by go_simp; rfl) (by go_simp; rfl) (by go_simp) ?_
 exact eqf_last (by rfl) (by go_simp; rfl) (by go_simp; rfl) (by go_simp)
attribute [local go_sem high] eqA50
def wN.f (a0_0 : Int) (a0_1 : Int) (a0_2 : Int) (a1_0 : Int) (a1_1 : Int) : Option (Bool) := (wJ.f a0_0 a0_1 a0_2 a1_0 a1_1).bind fun bt207 => (some (bt207.1 == 0 && (bt207.2 == 0)))
def yT.l0 : Nat → Int → Int → Int → Int → Option (Int)
 | 0, _, _, _, _ => none
 | k + 1, x3, x210000, x210001, x210002 => (wN.f x210000 x210001 x210002 0 x3).bind fun t210 => (if t210 = true then (some x3) else (yT.l0 k (wrap64 (x3 + 1)) x210000 x210001 x210002))
def yT.f (k : Nat) (a0_0 : Int) (a0_1 : Int) (a0_2 : Int) : Option (Int) := yT.l0 k 1 a0_0 a0_1 a0_2
theorem yT.mono_l : ∀ k, (∀ y0 y1 y2 y3, LeO (yT.l0 k y0 y1 y2 y3) (yT.l0 (k + 1) y0 y1 y2 y3))
 | 0 => fun _ _ _ _ r h => by simp [yT.l0] at h
 | k + 1 => by
  have ih0 := yT.mono_l k
  ·
   intro y0 y1 y2 y3
   unfold yT.l0
   repeat' first
   | (with_reducible exact ih0 _ _ _ _)
   | (with_reducible exact LeO.refl _)
   | (with_reducible exact LeO.none _)
   | (with_reducible refine LeO.ite ?_ ?_)
   | (with_reducible refine LeO.bind ?_ (fun _ => ?_))
   | refine LeO.ite ?_ ?_
   | refine LeO.bind ?_ (fun _ => ?_)
theorem yT.mono : ∀ a0 a1 a2 k, LeO (yT.f k a0 a1 a2) (yT.f (k + 1) a0 a1 a2) := by
 intro a0 a1 a2 k
 have ih0 := yT.mono_l k
 unfold yT.f
 repeat' first
   | (with_reducible exact ih0 _ _ _ _)
   | (with_reducible exact LeO.refl _)
   | (with_reducible exact LeO.none _)
   | (with_reducible refine LeO.ite ?_ ?_)
   | (with_reducible refine LeO.bind ?_ (fun _ => ?_))
   | refine LeO.ite ?_ ?_
   | refine LeO.bind ?_ (fun _ => ?_)
def xA.l0 : Nat → Int → Int → Int → Int → Int → Int → Option (Int × Bool)
 | 0, _, _, _, _, _, _ => none
 | k + 1, x1, x6, x7, x212000, x212001, x212002 => if x7 < x6 then ((wN.f x212000 x212001 x212002 x1 (wrap64 (-x7))).bind fun t213 => (if t213 = true then (some (x7, true)) else (xA.l0 k x1 x6 (wrap64 (x7 + 1)) x212000 x212001 x212002))) else (some (0, false))
def xA.f (k : Nat) (a0_0 : Int) (a0_1 : Int) (a0_2 : Int) (a1 : Int) : Option (Int × Bool) := (yT.f k a0_0 a0_1 a0_2).bind fun t212 => (xA.l0 k a1 t212 0 a0_0 a0_1 a0_2)
theorem xA.mono_l : ∀ k, (∀ y0 y1 y2 y3 y4 y5, LeO (xA.l0 k y0 y1 y2 y3 y4 y5) (xA.l0 (k + 1) y0 y1 y2 y3 y4 y5))
 | 0 => fun _ _ _ _ _ _ r h => by simp [xA.l0] at h
 | k + 1 => by
  have ih0 := xA.mono_l k
  ·
   intro y0 y1 y2 y3 y4 y5
   unfold xA.l0
   repeat' first
   | (with_reducible exact ih0 _ _ _ _ _ _)
   | (with_reducible exact yT.mono _ _ _ _)
   | (with_reducible exact LeO.refl _)
   | (with_reducible exact LeO.none _)
   | (with_reducible refine LeO.ite ?_ ?_)
   | (with_reducible refine LeO.bind ?_ (fun _ => ?_))
   | refine LeO.ite ?_ ?_
   | refine LeO.bind ?_ (fun _ => ?_)
theorem xA.mono : ∀ a0 a1 a2 a3 k, LeO (xA.f k a0 a1 a2 a3) (xA.f (k + 1) a0 a1 a2 a3) := by
 intro a0 a1 a2 a3 k
 have ih0 := xA.mono_l k
 unfold xA.f
 repeat' first
   | (with_reducible exact ih0 _ _ _ _ _ _)
   | (with_reducible exact yT.mono _ _ _ _)
   | (with_reducible exact LeO.refl _)
   | (with_reducible exact LeO.none _)
   | (with_reducible refine LeO.ite ?_ ?_)
   | (with_reducible refine LeO.bind ?_ (fun _ => ?_))
   | refine LeO.ite ?_ ?_
   | refine LeO.bind ?_ (fun _ => ?_)
def yV.l0 : Nat → Int → Int → Int → Int → List Int → Int → Option (List Int)
 | 0, _, _, _, _, _, _ => none
 | k + 1, x0, x1, x2, x3, x9, x10 => if x10 < x3 then (if 0 ≤ (wrap64 (x10 - 1)) then (if (wrap64 (x10 - 1)) < (x9.length : Int) then ((xU.f (wrap64 ((wrap64 (x10 * x1)) - (wrap64 ((rd x9 (wrap64 (x10 - 1))) + x2)))) x0).bind fun t218 => (if x9.length < 17592186044416 then (yV.l0 k x0 x1 x2 x3 (x9 ++ [wrap64 ((wrap64 ((rd x9 (wrap64 (x10 - 1))) + x2)) + t218)]) (wrap64 (x10 + 1))) else (none))) else (none)) else (none)) else (some x9)
def yV.f (k : Nat) (a0 : Int) (a1 : Int) (a2 : Int) (a3 : Int) : Option (List Int) := yV.l0 k a0 a1 a2 a3 (([0] : List Int)) 1
theorem yV.mono_l : ∀ k, (∀ y0 y1 y2 y3 y4 y5, LeO (yV.l0 k y0 y1 y2 y3 y4 y5) (yV.l0 (k + 1) y0 y1 y2 y3 y4 y5))
 | 0 => fun _ _ _ _ _ _ r h => by simp [yV.l0] at h
 | k + 1 => by
  have ih0 := yV.mono_l k
  ·
   intro y0 y1 y2 y3 y4 y5
   unfold yV.l0
   repeat' first
   | (with_reducible exact ih0 _ _ _ _ _ _)
   | (with_reducible exact LeO.refl _)
   | (with_reducible exact LeO.none _)
   | (with_reducible refine LeO.ite ?_ ?_)
   | (with_reducible refine LeO.bind ?_ (fun _ => ?_))
   | refine LeO.ite ?_ ?_
   | refine LeO.bind ?_ (fun _ => ?_)
theorem yV.mono : ∀ a0 a1 a2 a3 k, LeO (yV.f k a0 a1 a2 a3) (yV.f (k + 1) a0 a1 a2 a3) := by
 intro a0 a1 a2 a3 k
 have ih0 := yV.mono_l k
 unfold yV.f
 repeat' first
   | (with_reducible exact ih0 _ _ _ _ _ _)
   | (with_reducible exact LeO.refl _)
   | (with_reducible exact LeO.none _)
   | (with_reducible refine LeO.ite ?_ ?_)
   | (with_reducible refine LeO.bind ?_ (fun _ => ?_))
   | refine LeO.ite ?_ ?_
   | refine LeO.bind ?_ (fun _ => ?_)
def xD.f (k : Nat) (a0_0 : Int) (a0_1 : Int) (a0_2 : Int) (a0_3 : Int) (l0_4 : List Int) (a1 : Int) (a2 : Int) (a3 : Int) : Option (List Int × Int) := (xI.f a1 1 1000).bind fun t223 => (if t223 = true then ((xI.f a2 1 1000).bind fun t224 => (if t224 = true then ((xI.f a3 1 100).bind fun t225 => ((yU.f k a0_0 a0_1 a0_2 a0_3 l0_4 t225).bind fun bt226 => (if bt226.2.2.2 = 0 then ((xA.f k bt226.1 bt226.2.1 bt226.2.2.1 a1).bind fun bt231 => (if bt231.2 = true then ((yT.f k bt226.1 bt226.2.1 bt226.2.2.1).bind fun t233 => ((yV.f k t233 bt231.1 a2 a3).bind fun t234 => (some (t234, 0)))) else (some (([] : List Int), 4)))) else (some (([] : List Int), bt226.2.2.2))))) else ((yU.f k a0_0 a0_1 a0_2 a0_3 l0_4 false).bind fun bt237 => (if bt237.2.2.2 = 0 then (none) else (some (([] : List Int), bt237.2.2.2)))))) else ((yU.f k a0_0 a0_1 a0_2 a0_3 l0_4 false).bind fun bt242 => (if bt242.2.2.2 = 0 then (none) else (some (([] : List Int), bt242.2.2.2)))))
theorem xD.mono : ∀ a0 a1 a2 a3 a4 a5 a6 a7 k, LeO (xD.f k a0 a1 a2 a3 a4 a5 a6 a7) (xD.f (k + 1) a0 a1 a2 a3 a4 a5 a6 a7) := by
 intro a0 a1 a2 a3 a4 a5 a6 a7 k
 unfold xD.f
 repeat' first
   | (with_reducible exact yU.mono _ _ _ _ _ _ _)
   | (with_reducible exact xA.mono _ _ _ _ _)
   | (with_reducible exact yT.mono _ _ _ _)
   | (with_reducible exact yV.mono _ _ _ _ _)
   | (with_reducible exact LeO.refl _)
   | (with_reducible exact LeO.none _)
   | (with_reducible refine LeO.ite ?_ ?_)
   | (with_reducible refine LeO.bind ?_ (fun _ => ?_))
   | refine LeO.ite ?_ ?_
   | refine LeO.bind ?_ (fun _ => ?_)
def xP.f (a0 : Int) (a1 : Int) (a2 : Int) : Option (Bool) := if a0 ≥ a1 then (some (decide (a0 ≤ a2))) else (some false)
def wC.f (a0 : Int) : Option (Bool) := (xP.f a0 1 1000).bind fun t270 => (some t270)
def wO.f (a0 : Int) : Option (Bool) := (xP.f a0 0 1).bind fun t271 => (some t271)
def xM.f (a0_0 : Int) (a0_1 : Int) (a0_2 : Int) : Option (Int) := some (wrap64 (a0_0 * a0_2))
def wD.f (a0_0 : Int) (a0_1 : Int) (a0_2 : Int) : Option (Bool) := (xP.f a0_0 1 64).bind fun t274 => (if t274 = true then ((xP.f a0_2 1 64).bind fun t275 => (if t275 = true then ((xP.f a0_1 0 (wrap64 (a0_0 - 1))).bind fun t276 => (if t276 = true then ((xM.f a0_0 a0_1 a0_2).bind fun t277 => (some (decide (t277 ≤ 64)))) else (some false))) else (some false))) else (some false))
theorem enters_of {P : Program} {f : FuncId} {fn : Func} {c : Code} (hf : P.funcs[f]? = some fn) (hname : (fn.name == "runtime.NumGoroutine") = false) (hb : fn.body = some c) (args : Array Value) (w : World) : (callFunc f args).run P w = .ok (.enter f args) w := by
 have h1 : fn.name ≠ "runtime.NumGoroutine" := by simpa using hname
 simp [callFunc, hf, h1, hb, mark]
/-- where p first holds -/
def fidx {α : Type} (p : α → Bool) (xs : List α) : Int := match xs.findIdx? p with | some i => (i : Int) | none => -1
theorem fidx_hit {α : Type} (p : α → Bool) (xs : List α) (d : α) (k : Nat) (hk : k < xs.length) (h : ∀ j, j < k → p (xs.getD j d) = false) (hp : p (xs.getD k d) = true) : fidx p xs = (k : Int) := by
 have e : xs.findIdx? p = some k := by
  rw [List.findIdx?_eq_some_iff_getElem]
  refine ⟨hk, ?_, fun j hj => ?_⟩
  ·
   simpa [List.getD_eq_getElem?_getD, List.getElem?_eq_getElem hk] using hp
  ·
   have := h j hj
   simpa [List.getD_eq_getElem?_getD, List.getElem?_eq_getElem (show j < xs.length by omega)] using this
 unfold fidx
 rw [e]
theorem fidx_miss {α : Type} (p : α → Bool) (xs : List α) (d : α) (h : ∀ j, j < xs.length → p (xs.getD j d) = false) : fidx p xs = -1 := by
 have e : xs.findIdx? p = none := by
  rw [List.findIdx?_eq_none_iff]
  intro x hx
  obtain ⟨j, hj, rfl⟩ := List.mem_iff_getElem.1 hx
  have := h j hj
  simpa [List.getD_eq_getElem?_getD, List.getElem?_eq_getElem hj] using this
 unfold fidx
 rw [e]
theorem fidx_nonneg {α : Type} (p : α → Bool) (xs : List α) : decide (0 ≤ fidx p xs) = xs.any p := by
 unfold fidx
 cases e : xs.findIdx? p with
 | none =>
  rw [List.findIdx?_eq_none_iff] at e
  have : xs.any p = false := by rw [List.any_eq_false]; intro x hx; simp [e x hx]
  rw [this]
  rfl
 | some i =>
  rw [List.findIdx?_eq_some_iff_getElem] at e
  obtain ⟨h, hp, _⟩ := e
  have : xs.any p = true := List.any_eq_true.2 ⟨xs[i], List.getElem_mem h, hp⟩
  rw [this]
  simp
/-! What a function with rounds comes to, whatever the rounds: its limit. -/
def Mono {α : Type} (g : Nat → Option α) : Prop := ∀ k, LeO (g k) (g (k + 1))
def Lim {α : Type} (g : Nat → Option α) (v : Option α) : Prop := Mono g ∧ ∀ r, v = some r ↔ ∃ k, g k = some r
open Classical in
noncomputable def lim {α : Type} (g : Nat → Option α) : Option α := if h : ∃ k r, g k = some r then g h.choose else none
theorem Mono.le {α : Type} {g : Nat → Option α} (hm : Mono g) {j k : Nat} (h : j ≤ k) {r : α} (hr : g j = some r) : g k = some r := at_rounds hm h hr
theorem lim_Lim {α : Type} {g : Nat → Option α} (hm : Mono g) : Lim g (lim g) := by
 refine ⟨hm, fun r => ?_⟩
 unfold lim
 split
 ·
  rename_i h
  obtain ⟨q, hq⟩ := h.choose_spec
  rw [hq]
  constructor
  ·
   intro e; exact ⟨_, hq.trans e⟩
  ·
   rintro ⟨k, hk⟩
   have h1 := hm.le (Nat.le_max_left h.choose k) hq
   have h2 := hm.le (Nat.le_max_right h.choose k) hk
   rw [← h1, h2]
 ·
  rename_i h
  constructor
  ·
   intro e; cases e
  ·
   rintro ⟨k, hk⟩; exact absurd ⟨k, r, hk⟩ h
theorem Lim.uniq {α : Type} {g : Nat → Option α} {v w : Option α} (h : Lim g v) (h' : Lim g w) : v = w := by
 cases v with
 | some r => exact ((h'.2 r).2 ((h.2 r).1 rfl)).symm
 | none =>
  cases w with
  | none => rfl
  | some r => exact (h.2 r).2 ((h'.2 r).1 rfl)
theorem Lim.const {α : Type} (v : Option α) : Lim (fun _ => v) v := ⟨fun _ => LeO.refl _, fun r => ⟨fun h => ⟨0, h⟩, fun ⟨_, h⟩ => h⟩⟩
theorem Lim.ite {α : Type} {c : Prop} [Decidable c] {g f : Nat → Option α} {v w : Option α} (h : Lim g v) (h' : Lim f w) : Lim (fun k => if c then g k else f k) (if c then v else w) := by
 by_cases hc : c
 ·
  simp only [if_pos hc]; exact h
 ·
  simp only [if_neg hc]; exact h'
theorem Lim.bind {α β : Type} {g : Nat → Option α} {f : Nat → α → Option β} {v : Option α} {w : α → Option β} (h : Lim g v) (h' : ∀ x, Lim (fun k => f k x) (w x)) : Lim (fun k => (g k).bind (f k)) (v.bind w) := by
 refine ⟨fun k => LeO.bind (h.1 k) (fun x => (h' x).1 k), fun r => ?_⟩
 rw [Option.bind_eq_some_iff]
 constructor
 ·
  rintro ⟨x, hx, hr⟩
  obtain ⟨k, hk⟩ := (h.2 x).1 hx
  obtain ⟨j, hj⟩ := ((h' x).2 r).1 hr
  refine ⟨max k j, ?_⟩
  show (g (max k j)).bind (f (max k j)) = some r
  rw [h.1.le (Nat.le_max_left k j) hk]
  exact (h' x).1.le (Nat.le_max_right k j) hj
 ·
  rintro ⟨k, hk⟩
  obtain ⟨x, hx, hr⟩ := Option.bind_eq_some_iff.1 hk
  exact ⟨x, (h.2 x).2 ⟨k, hx⟩, ((h' x).2 r).2 ⟨k, hr⟩⟩
theorem lim_step {α : Type} {g f : Nat → Option α} {v : Option α} (hm : Mono g) (h : ∀ k, g (k + 1) = f k) (hf : Lim f v) : lim g = v := by
 refine (lim_Lim hm).uniq ⟨hm, fun r => ?_⟩
 rw [hf.2 r]
 constructor
 ·
  rintro ⟨k, hk⟩; exact ⟨k + 1, (h k).trans hk⟩
 ·
  rintro ⟨k, hk⟩; exact ⟨k, (h k).symm.trans (hm k r hk)⟩
theorem lim_now {α : Type} {g f : Nat → Option α} {v : Option α} (h : ∀ k, g k = f k) (hf : Lim f v) : lim g = v := by
 have e : g = f := funext h
 subst e
 exact (lim_Lim hf.1).uniq hf
theorem lim_some {α : Type} {g : Nat → Option α} (hm : Mono g) {r : α} (h : lim g = some r) : ∃ k, g k = some r := ((lim_Lim hm).2 r).1 h
def wE.f (l0 : List Int) (a1 : Int) (a2 : Int) : Option (Bool) := some (l0.all fun n => decide (a1 ≤ n) && decide (n ≤ a2))
def xQ.f (a0_0 : Int) (a0_1 : Int) (a0_2 : Int) (a0_3 : Int) (l0_4 : List Int) : Option (Bool) := (wO.f a0_0).bind fun t279 => (if t279 = true then ((wD.f a0_1 a0_2 a0_3).bind fun t280 => (if t280 = true then ((xM.f a0_1 a0_2 a0_3).bind fun t281 => (if (l0_4.length : Int) = t281 then ((wE.f l0_4 0 9).bind fun t282 => (some t282)) else (some false))) else (some false))) else (some false))
mutual
def yG.l0 : Nat → List (S50) → Int → Int → Int → Int → Int → Option ((List (S50)))
 | 0, _, _, _, _, _, _ => none
 | k + 1, x3, x8, x9, x284000, x284001, x284002 => if x9 < x8 then (yG.l1 k x3 x9 x8 x9 x284002 0 x284000 x284001 x284002) else (some x3)
def yG.l1 : Nat → List (S50) → Int → Int → Int → Int → Int → Int → Int → Int → Option ((List (S50)))
 | 0, _, _, _, _, _, _, _, _, _ => none
 | k + 1, x3, x4, x8, x9, x13, x14, x284000, x284001, x284002 => if x14 < x13 then (if x3.length < 8796093022208 then (yG.l1 k (x3 ++ [(⟨x4, x14⟩ : S50)]) x4 x8 x9 x13 (wrap64 (x14 + 1)) x284000 x284001 x284002) else (none)) else (yG.l0 k x3 x8 (wrap64 (x9 + 1)) x284000 x284001 x284002)
end
def yG.f (k : Nat) (a0_0 : Int) (a0_1 : Int) (a0_2 : Int) : Option ((List (S50))) := yG.l0 k (([] : List (S50))) a0_0 0 a0_0 a0_1 a0_2
theorem yG.mono_l : ∀ k, (∀ y0 y1 y2 y3 y4 y5, LeO (yG.l0 k y0 y1 y2 y3 y4 y5) (yG.l0 (k + 1) y0 y1 y2 y3 y4 y5)) ∧ (∀ y0 y1 y2 y3 y4 y5 y6 y7 y8, LeO (yG.l1 k y0 y1 y2 y3 y4 y5 y6 y7 y8) (yG.l1 (k + 1) y0 y1 y2 y3 y4 y5 y6 y7 y8))
 | 0 => ⟨fun _ _ _ _ _ _ r h => by simp [yG.l0] at h, fun _ _ _ _ _ _ _ _ _ r h => by simp [yG.l1] at h⟩
 | k + 1 => by
  obtain ⟨ih0, ih1⟩ := yG.mono_l k
  refine ⟨?_, ?_⟩
  ·
   intro y0 y1 y2 y3 y4 y5
   unfold yG.l0
   repeat' first
   | (with_reducible exact ih0 _ _ _ _ _ _)
   | (with_reducible exact ih1 _ _ _ _ _ _ _ _ _)
   | (with_reducible exact LeO.refl _)
   | (with_reducible exact LeO.none _)
   | (with_reducible refine LeO.ite ?_ ?_)
   | (with_reducible refine LeO.bind ?_ (fun _ => ?_))
   | refine LeO.ite ?_ ?_
   | refine LeO.bind ?_ (fun _ => ?_)
  ·
   intro y0 y1 y2 y3 y4 y5 y6 y7 y8
   unfold yG.l1
   repeat' first
   | (with_reducible exact ih0 _ _ _ _ _ _)
   | (with_reducible exact ih1 _ _ _ _ _ _ _ _ _)
   | (with_reducible exact LeO.refl _)
   | (with_reducible exact LeO.none _)
   | (with_reducible refine LeO.ite ?_ ?_)
   | (with_reducible refine LeO.bind ?_ (fun _ => ?_))
   | refine LeO.ite ?_ ?_
   | refine LeO.bind ?_ (fun _ => ?_)
theorem yG.mono : ∀ a0 a1 a2 k, LeO (yG.f k a0 a1 a2) (yG.f (k + 1) a0 a1 a2) := by
 intro a0 a1 a2 k
 obtain ⟨ih0, ih1⟩ := yG.mono_l k
 unfold yG.f
 repeat' first
   | (with_reducible exact ih0 _ _ _ _ _ _)
   | (with_reducible exact ih1 _ _ _ _ _ _ _ _ _)
   | (with_reducible exact LeO.refl _)
   | (with_reducible exact LeO.none _)
   | (with_reducible refine LeO.ite ?_ ?_)
   | (with_reducible refine LeO.bind ?_ (fun _ => ?_))
   | refine LeO.ite ?_ ?_
   | refine LeO.bind ?_ (fun _ => ?_)
def xR.f (a0_0 : Int) (a0_1 : Int) (a0_2 : Int) : Option (Int × Int × Int × Int) := some (a0_0, 0, a0_1, a0_2)
def wU.f (a0_0 : Int) (a0_1 : Int) (a0_2 : Int) (a0_3 : Int) (a1_0 : Int) (a1_1 : Int) : Option (Int × Int) := some (wrap64 ((wrap64 (a0_0 * a1_0)) + (wrap64 (a0_1 * a1_1))), wrap64 ((wrap64 (a0_2 * a1_0)) + (wrap64 (a0_3 * a1_1))))
def xX.f (a0_0 : Int) (a0_1 : Int) (a1_0 : Int) (a1_1 : Int) : Option (Int × Int) := some (wrap64 (a0_0 + a1_0), wrap64 (a0_1 + a1_1))
def xS.f (a0_0 : Int) (a0_1 : Int) (a0_2 : Int) (a0_3 : Int) (a0_4 : Int) (a0_5 : Int) (a1_0 : Int) (a1_1 : Int) : Option (Int × Int) := (wU.f a0_0 a0_1 a0_2 a0_3 a1_0 a1_1).bind fun bt302 => ((xX.f bt302.1 bt302.2 a0_4 a0_5).bind fun bt304 => (some (bt304.1, bt304.2)))
def wG.f (a0 : Int) (a1 : Int) : Option (Int) := if a1 = 0 then (none) else (some (Int.tmod (wrap64 ((Int.tmod a0 a1) + a1)) a1))
def xO.f (a0_0 : Int) (a0_1 : Int) (a0_2 : Int) (a1_0 : Int) (a1_1 : Int) : Option (Int × Int) := (wG.f a1_1 a0_2).bind fun t309 => (if a0_2 = 0 then (none) else ((wG.f (wrap64 (a1_0 - (wrap64 ((wrap64 (Int.tdiv (wrap64 (a1_1 - t309)) a0_2)) * a0_1)))) a0_0).bind fun t310 => (some (t310, t309))))
def wB.f (a0_0 : Int) (a0_1 : Int) (a0_2 : Int) (a1_0 : Int) (a1_1 : Int) : Option (Int) := some (wrap64 ((wrap64 (a1_0 * a0_2)) + a1_1))
def xT.f (a0_0 : Int) (a0_1 : Int) (a0_2 : Int) (a0_3 : Int) (l0_4 : List Int) (a1_0 : Int) (a1_1 : Int) : Option (Int) := (xO.f a0_1 a0_2 a0_3 a1_0 a1_1).bind fun bt315 => ((wB.f a0_1 a0_2 a0_3 bt315.1 bt315.2).bind fun t317 => (if 0 ≤ t317 then (if t317 < (l0_4.length : Int) then (some (rd l0_4 t317)) else (none)) else (none)))
def yM.l0 : Nat → List (S50) → Int → Int → Int → Int → Int → Int → List Int → Int → Int → Int → Int → Int → Int → Option (Bool)
 | 0, _, _, _, _, _, _, _, _, _, _, _, _, _, _ => none
 | k + 1, x9, x10, x11, x320000, x320001, x320002, x320003, x320004, x321000, x321001, x321002, x321003, x321004, x321005 => if x11 < x10 then (if 0 ≤ x11 then (if x11 < (x9.length : Int) then ((xS.f x321000 x321001 x321002 x321003 x321004 x321005 ((rd_T50 x9 x11).f0) ((rd_T50 x9 x11).f1)).bind fun bt326 => ((xT.f x320000 x320001 x320002 x320003 x320004 bt326.1 bt326.2).bind fun t328 => (if x11 < (x320004.length : Int) then (if t328 = (rd x320004 x11) then (yM.l0 k x9 x10 (wrap64 (x11 + 1)) x320000 x320001 x320002 x320003 x320004 x321000 x321001 x321002 x321003 x321004 x321005) else (some false)) else (none)))) else (none)) else (none)) else (some true)
def yM.f (k : Nat) (a0_0 : Int) (a0_1 : Int) (a0_2 : Int) (a0_3 : Int) (l0_4 : List Int) (a1_0 : Int) (a1_1 : Int) (a1_2 : Int) (a1_3 : Int) (a1_4 : Int) (a1_5 : Int) : Option (Bool) := (yG.f k a0_1 a0_2 a0_3).bind fun t321 => (yM.l0 k t321 (t321.length : Int) 0 a0_0 a0_1 a0_2 a0_3 l0_4 a1_0 a1_1 a1_2 a1_3 a1_4 a1_5)
theorem yM.mono_l : ∀ k, (∀ y0 y1 y2 y3 y4 y5 y6 y7 y8 y9 y10 y11 y12 y13, LeO (yM.l0 k y0 y1 y2 y3 y4 y5 y6 y7 y8 y9 y10 y11 y12 y13) (yM.l0 (k + 1) y0 y1 y2 y3 y4 y5 y6 y7 y8 y9 y10 y11 y12 y13))
 | 0 => fun _ _ _ _ _ _ _ _ _ _ _ _ _ _ r h => by simp [yM.l0] at h
 | k + 1 => by
  have ih0 := yM.mono_l k
  ·
   intro y0 y1 y2 y3 y4 y5 y6 y7 y8 y9 y10 y11 y12 y13
   unfold yM.l0
   repeat' first
   | (with_reducible exact ih0 _ _ _ _ _ _ _ _ _ _ _ _ _ _)
   | (with_reducible exact yG.mono _ _ _ _)
   | (with_reducible exact LeO.refl _)
   | (with_reducible exact LeO.none _)
   | (with_reducible refine LeO.ite ?_ ?_)
   | (with_reducible refine LeO.bind ?_ (fun _ => ?_))
   | refine LeO.ite ?_ ?_
   | refine LeO.bind ?_ (fun _ => ?_)
theorem yM.mono : ∀ a0 a1 a2 a3 a4 a5 a6 a7 a8 a9 a10 k, LeO (yM.f k a0 a1 a2 a3 a4 a5 a6 a7 a8 a9 a10) (yM.f (k + 1) a0 a1 a2 a3 a4 a5 a6 a7 a8 a9 a10) := by
 intro a0 a1 a2 a3 a4 a5 a6 a7 a8 a9 a10 k
 have ih0 := yM.mono_l k
 unfold yM.f
 repeat' first
   | (with_reducible exact ih0 _ _ _ _ _ _ _ _ _ _ _ _ _ _)
   | (with_reducible exact yG.mono _ _ _ _)
   | (with_reducible exact LeO.refl _)
   | (with_reducible exact LeO.none _)
   | (with_reducible refine LeO.ite ?_ ?_)
   | (with_reducible refine LeO.bind ?_ (fun _ => ?_))
   | refine LeO.ite ?_ ?_
   | refine LeO.bind ?_ (fun _ => ?_)
def wZ.f  : Option (Int × Int × Int × Int) := some (1, 0, 0, 1)
def wI.f (a0_0 : Int) (a0_1 : Int) (a1 : Int) : Option (Int × Int) := some (wrap64 (a1 * a0_0), wrap64 (a1 * a0_1))
def xL.l0 : Nat → Int → Int → Option (Int)
 | 0, _, _ => none
 | k + 1, x0, x1 => if x1 = 0 then (some (mx x0 (wrap64 (-x0)))) else (xL.l0 k x1 (Int.tmod x0 x1))
def xL.f (k : Nat) (a0 : Int) (a1 : Int) : Option (Int) := xL.l0 k a0 a1
theorem xL.mono_l : ∀ k, (∀ y0 y1, LeO (xL.l0 k y0 y1) (xL.l0 (k + 1) y0 y1))
 | 0 => fun _ _ r h => by simp [xL.l0] at h
 | k + 1 => by
  have ih0 := xL.mono_l k
  ·
   intro y0 y1
   unfold xL.l0
   repeat' first
   | (with_reducible exact ih0 _ _)
   | (with_reducible exact LeO.refl _)
   | (with_reducible exact LeO.none _)
   | (with_reducible refine LeO.ite ?_ ?_)
   | (with_reducible refine LeO.bind ?_ (fun _ => ?_))
   | refine LeO.ite ?_ ?_
   | refine LeO.bind ?_ (fun _ => ?_)
theorem xL.mono : ∀ a0 a1 k, LeO (xL.f k a0 a1) (xL.f (k + 1) a0 a1) := by
 intro a0 a1 k
 have ih0 := xL.mono_l k
 unfold xL.f
 repeat' first
   | (with_reducible exact ih0 _ _)
   | (with_reducible exact LeO.refl _)
   | (with_reducible exact LeO.none _)
   | (with_reducible refine LeO.ite ?_ ?_)
   | (with_reducible refine LeO.bind ?_ (fun _ => ?_))
   | refine LeO.ite ?_ ?_
   | refine LeO.bind ?_ (fun _ => ?_)
mutual
def yI.l0 : Nat → Int → List (S50) → Int → Int → Int → Int → Option (Int × Int × Int)
 | 0, _, _, _, _, _, _ => none
 | k + 1, x3, x9, x10, x11, x335000, x335001 => if x11 < x10 then (if 0 ≤ x11 then (if x11 < (x9.length : Int) then (yI.l1 k x3 x9 x10 x11 x335000 x335001 ((rd_T50 x9 x11).f0) ((rd_T50 x9 x11).f1)) else (none)) else (none)) else (if x335001 < 0 then ((wI.f x335000 x335001 (-1)).bind fun bt342 => ((wG.f bt342.1 x3).bind fun t344 => (some (x3, t344, bt342.2)))) else ((wG.f x335000 x3).bind fun t345 => (some (x3, t345, x335001))))
def yI.l1 : Nat → Int → List (S50) → Int → Int → Int → Int → Int → Int → Option (Int × Int × Int)
 | 0, _, _, _, _, _, _, _, _ => none
 | k + 1, x3, x9, x10, x11, x335000, x335001, x337000, x337001 => if x337001 = 0 then ((xL.f k x3 x337000).bind fun t337 => (yI.l0 k t337 x9 x10 (wrap64 (x11 + 1)) x335000 x335001)) else ((wI.f x337000 x337001 (wrap64 (-(wrap64 (Int.tdiv x335001 x337001))))).bind fun bt338 => ((xX.f x335000 x335001 bt338.1 bt338.2).bind fun bt340 => (yI.l1 k x3 x9 x10 x11 x337000 x337001 bt340.1 bt340.2)))
end
def yI.f (k : Nat) (l0 : List (S50)) : Option (Int × Int × Int) := yI.l0 k 0 l0 (l0.length : Int) 0 0 0
theorem yI.mono_l : ∀ k, (∀ y0 y1 y2 y3 y4 y5, LeO (yI.l0 k y0 y1 y2 y3 y4 y5) (yI.l0 (k + 1) y0 y1 y2 y3 y4 y5)) ∧ (∀ y0 y1 y2 y3 y4 y5 y6 y7, LeO (yI.l1 k y0 y1 y2 y3 y4 y5 y6 y7) (yI.l1 (k + 1) y0 y1 y2 y3 y4 y5 y6 y7))
 | 0 => ⟨fun _ _ _ _ _ _ r h => by simp [yI.l0] at h, fun _ _ _ _ _ _ _ _ r h => by simp [yI.l1] at h⟩
 | k + 1 => by
  obtain ⟨ih0, ih1⟩ := yI.mono_l k
  refine ⟨?_, ?_⟩
  ·
   intro y0 y1 y2 y3 y4 y5
   unfold yI.l0
   repeat' first
   | (with_reducible exact ih0 _ _ _ _ _ _)
   | (with_reducible exact ih1 _ _ _ _ _ _ _ _)
   | (with_reducible exact xL.mono _ _ _)
   | (with_reducible exact LeO.refl _)
   | (with_reducible exact LeO.none _)
   | (with_reducible refine LeO.ite ?_ ?_)
   | (with_reducible refine LeO.bind ?_ (fun _ => ?_))
   | refine LeO.ite ?_ ?_
   | refine LeO.bind ?_ (fun _ => ?_)
  ·
   intro y0 y1 y2 y3 y4 y5 y6 y7
   unfold yI.l1
   repeat' first
   | (with_reducible exact ih0 _ _ _ _ _ _)
   | (with_reducible exact ih1 _ _ _ _ _ _ _ _)
   | (with_reducible exact xL.mono _ _ _)
   | (with_reducible exact LeO.refl _)
   | (with_reducible exact LeO.none _)
   | (with_reducible refine LeO.ite ?_ ?_)
   | (with_reducible refine LeO.bind ?_ (fun _ => ?_))
   | refine LeO.ite ?_ ?_
   | refine LeO.bind ?_ (fun _ => ?_)
theorem yI.mono : ∀ a0 k, LeO (yI.f k a0) (yI.f (k + 1) a0) := by
 intro a0 k
 obtain ⟨ih0, ih1⟩ := yI.mono_l k
 unfold yI.f
 repeat' first
   | (with_reducible exact ih0 _ _ _ _ _ _)
   | (with_reducible exact ih1 _ _ _ _ _ _ _ _)
   | (with_reducible exact xL.mono _ _ _)
   | (with_reducible exact LeO.refl _)
   | (with_reducible exact LeO.none _)
   | (with_reducible refine LeO.ite ?_ ?_)
   | (with_reducible refine LeO.bind ?_ (fun _ => ?_))
   | refine LeO.ite ?_ ?_
   | refine LeO.bind ?_ (fun _ => ?_)
def yH.l0 : Nat → List (S50) → List (S50) → Int → Int → Int → Int → Int → Int → List Int → Option (Int × Int × Int)
 | 0, _, _, _, _, _, _, _, _, _ => none
 | k + 1, x5, x19, x20, x21, x347000, x347001, x347002, x347003, x347004 => if x21 < x20 then (if 0 ≤ x21 then (if x21 < (x19.length : Int) then ((wZ.f).bind fun bt365 => ((yM.f k x347000 x347001 x347002 x347003 x347004 bt365.1 bt365.2.1 bt365.2.2.1 bt365.2.2.2 ((rd_T50 x19 x21).f0) ((rd_T50 x19 x21).f1)).bind fun t369 => (if t369 = true then (if x5.length < 8796093022208 then (yH.l0 k (x5 ++ [(⟨(rd_T50 x19 x21).f0, (rd_T50 x19 x21).f1⟩ : S50)]) x19 x20 (wrap64 (x21 + 1)) x347000 x347001 x347002 x347003 x347004) else (none)) else (yH.l0 k x5 x19 x20 (wrap64 (x21 + 1)) x347000 x347001 x347002 x347003 x347004)))) else (none)) else (none)) else ((yI.f k x5).bind fun bt360 => (some (bt360.1, bt360.2.1, bt360.2.2)))
def yH.f (k : Nat) (a0_0 : Int) (a0_1 : Int) (a0_2 : Int) (a0_3 : Int) (l0_4 : List Int) : Option (Int × Int × Int) := (xR.f a0_1 a0_2 a0_3).bind fun bt348 => ((yG.f k a0_1 a0_2 a0_3).bind fun t357 => (yH.l0 k (([(⟨bt348.1, bt348.2.1⟩ : S50), (⟨bt348.2.2.1, bt348.2.2.2⟩ : S50)] : List (S50))) t357 (t357.length : Int) 0 a0_0 a0_1 a0_2 a0_3 l0_4))
theorem yH.mono_l : ∀ k, (∀ y0 y1 y2 y3 y4 y5 y6 y7 y8, LeO (yH.l0 k y0 y1 y2 y3 y4 y5 y6 y7 y8) (yH.l0 (k + 1) y0 y1 y2 y3 y4 y5 y6 y7 y8))
 | 0 => fun _ _ _ _ _ _ _ _ _ r h => by simp [yH.l0] at h
 | k + 1 => by
  have ih0 := yH.mono_l k
  ·
   intro y0 y1 y2 y3 y4 y5 y6 y7 y8
   unfold yH.l0
   repeat' first
   | (with_reducible exact ih0 _ _ _ _ _ _ _ _ _)
   | (with_reducible exact yG.mono _ _ _ _)
   | (with_reducible exact yM.mono _ _ _ _ _ _ _ _ _ _ _ _)
   | (with_reducible exact yI.mono _ _)
   | (with_reducible exact LeO.refl _)
   | (with_reducible exact LeO.none _)
   | (with_reducible refine LeO.ite ?_ ?_)
   | (with_reducible refine LeO.bind ?_ (fun _ => ?_))
   | refine LeO.ite ?_ ?_
   | refine LeO.bind ?_ (fun _ => ?_)
theorem yH.mono : ∀ a0 a1 a2 a3 a4 k, LeO (yH.f k a0 a1 a2 a3 a4) (yH.f (k + 1) a0 a1 a2 a3 a4) := by
 intro a0 a1 a2 a3 a4 k
 have ih0 := yH.mono_l k
 unfold yH.f
 repeat' first
   | (with_reducible exact ih0 _ _ _ _ _ _ _ _ _)
   | (with_reducible exact yG.mono _ _ _ _)
   | (with_reducible exact yM.mono _ _ _ _ _ _ _ _ _ _ _ _)
   | (with_reducible exact yI.mono _ _)
   | (with_reducible exact LeO.refl _)
   | (with_reducible exact LeO.none _)
   | (with_reducible refine LeO.ite ?_ ?_)
   | (with_reducible refine LeO.bind ?_ (fun _ => ?_))
   | refine LeO.ite ?_ ?_
   | refine LeO.bind ?_ (fun _ => ?_)
def xK.f (k : Nat) (a0_0 : Int) (a0_1 : Int) (a0_2 : Int) (a0_3 : Int) (l0_4 : List Int) : Option (Int × Int × Int × Int) := (xQ.f a0_0 a0_1 a0_2 a0_3 l0_4).bind fun t375 => (if t375 = true then (if a0_0 = 0 then ((yH.f k a0_0 a0_1 a0_2 a0_3 l0_4).bind fun bt376 => (some (bt376.1, bt376.2.1, bt376.2.2, 0))) else (some (0, 0, 0, 1))) else (some (0, 0, 0, 1)))
theorem xK.mono : ∀ a0 a1 a2 a3 a4 k, LeO (xK.f k a0 a1 a2 a3 a4) (xK.f (k + 1) a0 a1 a2 a3 a4) := by
 intro a0 a1 a2 a3 a4 k
 unfold xK.f
 repeat' first
   | (with_reducible exact yH.mono _ _ _ _ _ _)
   | (with_reducible exact LeO.refl _)
   | (with_reducible exact LeO.none _)
   | (with_reducible refine LeO.ite ?_ ?_)
   | (with_reducible refine LeO.bind ?_ (fun _ => ?_))
   | refine LeO.ite ?_ ?_
   | refine LeO.bind ?_ (fun _ => ?_)
attribute [local go_sem high] eqA50
def wA.f (a0_0 : Int) (a0_1 : Int) (a0_2 : Int) (a1_0 : Int) (a1_1 : Int) : Option (Bool) := (xO.f a0_0 a0_1 a0_2 a1_0 a1_1).bind fun bt381 => (some (bt381.1 == 0 && (bt381.2 == 0)))
def yK.l0 : Nat → Int → Int → Int → Int → Int → Int → Int → Option (Int × Int)
 | 0, _, _, _, _, _, _, _ => none
 | k + 1, x384000, x384001, x384002, x385000, x385001, x387000, x387001 => (wA.f x384000 x384001 x384002 x387000 x387001).bind fun t387 => (if t387 = true then (some (x387000, x387001)) else ((xX.f x387000 x387001 x385000 x385001).bind fun bt388 => (yK.l0 k x384000 x384001 x384002 x385000 x385001 bt388.1 bt388.2)))
def yK.f (k : Nat) (a0_0 : Int) (a0_1 : Int) (a0_2 : Int) (a1_0 : Int) (a1_1 : Int) : Option (Int × Int) := yK.l0 k a0_0 a0_1 a0_2 a1_0 a1_1 a1_0 a1_1
theorem yK.mono_l : ∀ k, (∀ y0 y1 y2 y3 y4 y5 y6, LeO (yK.l0 k y0 y1 y2 y3 y4 y5 y6) (yK.l0 (k + 1) y0 y1 y2 y3 y4 y5 y6))
 | 0 => fun _ _ _ _ _ _ _ r h => by simp [yK.l0] at h
 | k + 1 => by
  have ih0 := yK.mono_l k
  ·
   intro y0 y1 y2 y3 y4 y5 y6
   unfold yK.l0
   repeat' first
   | (with_reducible exact ih0 _ _ _ _ _ _ _)
   | (with_reducible exact LeO.refl _)
   | (with_reducible exact LeO.none _)
   | (with_reducible refine LeO.ite ?_ ?_)
   | (with_reducible refine LeO.bind ?_ (fun _ => ?_))
   | refine LeO.ite ?_ ?_
   | refine LeO.bind ?_ (fun _ => ?_)
theorem yK.mono : ∀ a0 a1 a2 a3 a4 k, LeO (yK.f k a0 a1 a2 a3 a4) (yK.f (k + 1) a0 a1 a2 a3 a4) := by
 intro a0 a1 a2 a3 a4 k
 have ih0 := yK.mono_l k
 unfold yK.f
 repeat' first
   | (with_reducible exact ih0 _ _ _ _ _ _ _)
   | (with_reducible exact LeO.refl _)
   | (with_reducible exact LeO.none _)
   | (with_reducible refine LeO.ite ?_ ?_)
   | (with_reducible refine LeO.bind ?_ (fun _ => ?_))
   | refine LeO.ite ?_ ?_
   | refine LeO.bind ?_ (fun _ => ?_)
def xE.f (k : Nat) (a0_0 : Int) (a0_1 : Int) (a0_2 : Int) : Option (Int) := (yK.f k a0_0 a0_1 a0_2 0 1).bind fun bt391 => (some bt391.2)
theorem xE.mono : ∀ a0 a1 a2 k, LeO (xE.f k a0 a1 a2) (xE.f (k + 1) a0 a1 a2) := by
 intro a0 a1 a2 k
 unfold xE.f
 repeat' first
   | (with_reducible exact yK.mono _ _ _ _ _ _)
   | (with_reducible exact LeO.refl _)
   | (with_reducible exact LeO.none _)
   | (with_reducible refine LeO.ite ?_ ?_)
   | (with_reducible refine LeO.bind ?_ (fun _ => ?_))
   | refine LeO.ite ?_ ?_
   | refine LeO.bind ?_ (fun _ => ?_)
def yR.l0 : Nat → Int → Int → Int → Int → Int → Int → Option (Int)
 | 0, _, _, _, _, _, _ => none
 | k + 1, x1, x7, x8, x394000, x394001, x394002 => if x8 < x7 then ((wA.f x394000 x394001 x394002 x1 (wrap64 (-x8))).bind fun t395 => (if t395 = true then (some x8) else (yR.l0 k x1 x7 (wrap64 (x8 + 1)) x394000 x394001 x394002))) else (some (-1))
def yR.f (k : Nat) (a0_0 : Int) (a0_1 : Int) (a0_2 : Int) (a1 : Int) : Option (Int) := (xE.f k a0_0 a0_1 a0_2).bind fun t394 => (yR.l0 k a1 t394 0 a0_0 a0_1 a0_2)
theorem yR.mono_l : ∀ k, (∀ y0 y1 y2 y3 y4 y5, LeO (yR.l0 k y0 y1 y2 y3 y4 y5) (yR.l0 (k + 1) y0 y1 y2 y3 y4 y5))
 | 0 => fun _ _ _ _ _ _ r h => by simp [yR.l0] at h
 | k + 1 => by
  have ih0 := yR.mono_l k
  ·
   intro y0 y1 y2 y3 y4 y5
   unfold yR.l0
   repeat' first
   | (with_reducible exact ih0 _ _ _ _ _ _)
   | (with_reducible exact xE.mono _ _ _ _)
   | (with_reducible exact LeO.refl _)
   | (with_reducible exact LeO.none _)
   | (with_reducible refine LeO.ite ?_ ?_)
   | (with_reducible refine LeO.bind ?_ (fun _ => ?_))
   | refine LeO.ite ?_ ?_
   | refine LeO.bind ?_ (fun _ => ?_)
theorem yR.mono : ∀ a0 a1 a2 a3 k, LeO (yR.f k a0 a1 a2 a3) (yR.f (k + 1) a0 a1 a2 a3) := by
 intro a0 a1 a2 a3 k
 have ih0 := yR.mono_l k
 unfold yR.f
 repeat' first
   | (with_reducible exact ih0 _ _ _ _ _ _)
   | (with_reducible exact xE.mono _ _ _ _)
   | (with_reducible exact LeO.refl _)
   | (with_reducible exact LeO.none _)
   | (with_reducible refine LeO.ite ?_ ?_)
   | (with_reducible refine LeO.bind ?_ (fun _ => ?_))
   | refine LeO.ite ?_ ?_
   | refine LeO.bind ?_ (fun _ => ?_)
def xB.j0 : Nat → Int → Bool → Int → Int → Int → Option (Int × Int × Int)
 | 0, _, _, _, _, _ => none
 | k + 1, x1, x26, x402000, x402001, x402002 => if x26 = true then (some (0, 0, 2)) else ((yR.f k x402000 x402001 x402002 x1).bind fun t403 => (if t403 < 0 then (some (0, 0, 4)) else ((xE.f k x402000 x402001 x402002).bind fun t404 => (some (t404, t403, 0)))))
def xB.f (k : Nat) (a0_0 : Int) (a0_1 : Int) (a0_2 : Int) (a0_3 : Int) (l0_4 : List Int) (a1 : Int) (a2 : Bool) : Option (Int × Int × Int) := (xK.f k a0_0 a0_1 a0_2 a0_3 l0_4).bind fun bt397 => (if bt397.2.2.2 = 0 then ((wC.f a1).bind fun t402 => (if t402 = true then (xB.j0 k a1 (!a2) bt397.1 bt397.2.1 bt397.2.2.1) else (xB.j0 k a1 true bt397.1 bt397.2.1 bt397.2.2.1))) else (some (0, 0, bt397.2.2.2)))
theorem xB.mono_l : ∀ k, (∀ y0 y1 y2 y3 y4, LeO (xB.j0 k y0 y1 y2 y3 y4) (xB.j0 (k + 1) y0 y1 y2 y3 y4))
 | 0 => fun _ _ _ _ _ r h => by simp [xB.j0] at h
 | k + 1 => by
  have ih0 := xB.mono_l k
  ·
   intro y0 y1 y2 y3 y4
   unfold xB.j0
   repeat' first
   | (with_reducible exact ih0 _ _ _ _ _)
   | (with_reducible exact yR.mono _ _ _ _ _)
   | (with_reducible exact xE.mono _ _ _ _)
   | (with_reducible exact xK.mono _ _ _ _ _ _)
   | (with_reducible exact LeO.refl _)
   | (with_reducible exact LeO.none _)
   | (with_reducible refine LeO.ite ?_ ?_)
   | (with_reducible refine LeO.bind ?_ (fun _ => ?_))
   | refine LeO.ite ?_ ?_
   | refine LeO.bind ?_ (fun _ => ?_)
theorem xB.mono : ∀ a0 a1 a2 a3 a4 a5 a6 k, LeO (xB.f k a0 a1 a2 a3 a4 a5 a6) (xB.f (k + 1) a0 a1 a2 a3 a4 a5 a6) := by
 intro a0 a1 a2 a3 a4 a5 a6 k
 have ih0 := xB.mono_l k
 unfold xB.f
 repeat' first
   | (with_reducible exact ih0 _ _ _ _ _)
   | (with_reducible exact yR.mono _ _ _ _ _)
   | (with_reducible exact xE.mono _ _ _ _)
   | (with_reducible exact xK.mono _ _ _ _ _ _)
   | (with_reducible exact LeO.refl _)
   | (with_reducible exact LeO.none _)
   | (with_reducible refine LeO.ite ?_ ?_)
   | (with_reducible refine LeO.bind ?_ (fun _ => ?_))
   | refine LeO.ite ?_ ?_
   | refine LeO.bind ?_ (fun _ => ?_)
def wK.f (a0 : Int) : Option (Bool) := (xP.f a0 1 100).bind fun t405 => (some t405)
def yP.l0 : Nat → Int → Int → Int → Int → List Int → Int → Option (List Int)
 | 0, _, _, _, _, _, _ => none
 | k + 1, x0, x1, x2, x3, x9, x10 => if x10 < x3 then (if 0 ≤ (wrap64 (x10 - 1)) then (if (wrap64 (x10 - 1)) < (x9.length : Int) then ((wG.f (wrap64 ((wrap64 (x10 * x1)) - (wrap64 ((rd x9 (wrap64 (x10 - 1))) + x2)))) x0).bind fun t410 => (if x9.length < 17592186044416 then (yP.l0 k x0 x1 x2 x3 (x9 ++ [wrap64 ((wrap64 ((rd x9 (wrap64 (x10 - 1))) + x2)) + t410)]) (wrap64 (x10 + 1))) else (none))) else (none)) else (none)) else (some x9)
def yP.f (k : Nat) (a0 : Int) (a1 : Int) (a2 : Int) (a3 : Int) : Option (List Int) := yP.l0 k a0 a1 a2 a3 (([0] : List Int)) 1
theorem yP.mono_l : ∀ k, (∀ y0 y1 y2 y3 y4 y5, LeO (yP.l0 k y0 y1 y2 y3 y4 y5) (yP.l0 (k + 1) y0 y1 y2 y3 y4 y5))
 | 0 => fun _ _ _ _ _ _ r h => by simp [yP.l0] at h
 | k + 1 => by
  have ih0 := yP.mono_l k
  ·
   intro y0 y1 y2 y3 y4 y5
   unfold yP.l0
   repeat' first
   | (with_reducible exact ih0 _ _ _ _ _ _)
   | (with_reducible exact LeO.refl _)
   | (with_reducible exact LeO.none _)
   | (with_reducible refine LeO.ite ?_ ?_)
   | (with_reducible refine LeO.bind ?_ (fun _ => ?_))
   | refine LeO.ite ?_ ?_
   | refine LeO.bind ?_ (fun _ => ?_)
theorem yP.mono : ∀ a0 a1 a2 a3 k, LeO (yP.f k a0 a1 a2 a3) (yP.f (k + 1) a0 a1 a2 a3) := by
 intro a0 a1 a2 a3 k
 have ih0 := yP.mono_l k
 unfold yP.f
 repeat' first
   | (with_reducible exact ih0 _ _ _ _ _ _)
   | (with_reducible exact LeO.refl _)
   | (with_reducible exact LeO.none _)
   | (with_reducible refine LeO.ite ?_ ?_)
   | (with_reducible refine LeO.bind ?_ (fun _ => ?_))
   | refine LeO.ite ?_ ?_
   | refine LeO.bind ?_ (fun _ => ?_)
def yS.f (k : Nat) (a0_0 : Int) (a0_1 : Int) (a0_2 : Int) (a0_3 : Int) (l0_4 : List Int) (a1 : Int) (a2 : Int) (a3 : Int) : Option (List Int × Int) := (wC.f a2).bind fun t415 => (if t415 = true then ((wK.f a3).bind fun t416 => ((xB.f k a0_0 a0_1 a0_2 a0_3 l0_4 a1 t416).bind fun bt417 => (if bt417.2.2 = 0 then ((yP.f k bt417.1 bt417.2.1 a2 a3).bind fun t420 => (some (t420, 0))) else (some (([] : List Int), bt417.2.2))))) else ((xB.f k a0_0 a0_1 a0_2 a0_3 l0_4 a1 false).bind fun bt423 => (if bt423.2.2 = 0 then ((yP.f k bt423.1 bt423.2.1 a2 a3).bind fun t426 => (some (t426, 0))) else (some (([] : List Int), bt423.2.2)))))
theorem yS.mono : ∀ a0 a1 a2 a3 a4 a5 a6 a7 k, LeO (yS.f k a0 a1 a2 a3 a4 a5 a6 a7) (yS.f (k + 1) a0 a1 a2 a3 a4 a5 a6 a7) := by
 intro a0 a1 a2 a3 a4 a5 a6 a7 k
 unfold yS.f
 repeat' first
   | (with_reducible exact yP.mono _ _ _ _ _)
   | (with_reducible exact xB.mono _ _ _ _ _ _ _ _)
   | (with_reducible exact LeO.refl _)
   | (with_reducible exact LeO.none _)
   | (with_reducible refine LeO.ite ?_ ?_)
   | (with_reducible refine LeO.bind ?_ (fun _ => ?_))
   | refine LeO.ite ?_ ?_
   | refine LeO.bind ?_ (fun _ => ?_)
def yQ.l0 : Nat → List Int → Int → Int → Option (Int × List Int)
 | 0, _, _, _ => none
 | k + 1, x0, x1, x5 => if x5 < (x0.length : Int) then (if 0 ≤ x5 then (yQ.l0 k (x0.set (x5 : Int).toNat x1) (wrap64 (x1 + 1)) (wrap64 (x5 + 1))) else (none)) else (some (x1, x0))
def yQ.f (k : Nat) (l0 : List Int) (a1 : Int) : Option (Int × List Int) := yQ.l0 k l0 a1 0
theorem yQ.mono_l : ∀ k, (∀ y0 y1 y2, LeO (yQ.l0 k y0 y1 y2) (yQ.l0 (k + 1) y0 y1 y2))
 | 0 => fun _ _ _ r h => by simp [yQ.l0] at h
 | k + 1 => by
  have ih0 := yQ.mono_l k
  ·
   intro y0 y1 y2
   unfold yQ.l0
   repeat' first
   | (with_reducible exact ih0 _ _ _)
   | (with_reducible exact LeO.refl _)
   | (with_reducible exact LeO.none _)
   | (with_reducible refine LeO.ite ?_ ?_)
   | (with_reducible refine LeO.bind ?_ (fun _ => ?_))
   | refine LeO.ite ?_ ?_
   | refine LeO.bind ?_ (fun _ => ?_)
theorem yQ.mono : ∀ a0 a1 k, LeO (yQ.f k a0 a1) (yQ.f (k + 1) a0 a1) := by
 intro a0 a1 k
 have ih0 := yQ.mono_l k
 unfold yQ.f
 repeat' first
   | (with_reducible exact ih0 _ _ _)
   | (with_reducible exact LeO.refl _)
   | (with_reducible exact LeO.none _)
   | (with_reducible refine LeO.ite ?_ ?_)
   | (with_reducible refine LeO.bind ?_ (fun _ => ?_))
   | refine LeO.ite ?_ ?_
   | refine LeO.bind ?_ (fun _ => ?_)
def xH.f (k : Nat) (a0_0 : Int) (a0_1 : Int) (a0_2 : Int) (a0_3 : Int) (l0_4 : List Int) (a1 : Int) : Option (Int × List Int) := (yQ.f k l0_4 a1).bind fun bt474 => (some (bt474.1, bt474.2))
theorem xH.mono : ∀ a0 a1 a2 a3 a4 a5 k, LeO (xH.f k a0 a1 a2 a3 a4 a5) (xH.f (k + 1) a0 a1 a2 a3 a4 a5) := by
 intro a0 a1 a2 a3 a4 a5 k
 unfold xH.f
 repeat' first
   | (with_reducible exact yQ.mono _ _ _)
   | (with_reducible exact LeO.refl _)
   | (with_reducible exact LeO.none _)
   | (with_reducible refine LeO.ite ?_ ?_)
   | (with_reducible refine LeO.bind ?_ (fun _ => ?_))
   | refine LeO.ite ?_ ?_
   | refine LeO.bind ?_ (fun _ => ?_)
def yL.l0 : Nat → List Int → Int → Int → Option (Int)
 | 0, _, _, _ => none
 | k + 1, x0, x1, x5 => if x5 < (x0.length : Int) then (if 0 ≤ x5 then (if (rd x0 x5) = x1 then (yL.l0 k x0 (wrap64 (x1 + 1)) (wrap64 (x5 + 1))) else (some (-1))) else (none)) else (some x1)
def yL.f (k : Nat) (l0 : List Int) (a1 : Int) : Option (Int) := yL.l0 k l0 a1 0
theorem yL.mono_l : ∀ k, (∀ y0 y1 y2, LeO (yL.l0 k y0 y1 y2) (yL.l0 (k + 1) y0 y1 y2))
 | 0 => fun _ _ _ r h => by simp [yL.l0] at h
 | k + 1 => by
  have ih0 := yL.mono_l k
  ·
   intro y0 y1 y2
   unfold yL.l0
   repeat' first
   | (with_reducible exact ih0 _ _ _)
   | (with_reducible exact LeO.refl _)
   | (with_reducible exact LeO.none _)
   | (with_reducible refine LeO.ite ?_ ?_)
   | (with_reducible refine LeO.bind ?_ (fun _ => ?_))
   | refine LeO.ite ?_ ?_
   | refine LeO.bind ?_ (fun _ => ?_)
theorem yL.mono : ∀ a0 a1 k, LeO (yL.f k a0 a1) (yL.f (k + 1) a0 a1) := by
 intro a0 a1 k
 have ih0 := yL.mono_l k
 unfold yL.f
 repeat' first
   | (with_reducible exact ih0 _ _ _)
   | (with_reducible exact LeO.refl _)
   | (with_reducible exact LeO.none _)
   | (with_reducible refine LeO.ite ?_ ?_)
   | (with_reducible refine LeO.bind ?_ (fun _ => ?_))
   | refine LeO.ite ?_ ?_
   | refine LeO.bind ?_ (fun _ => ?_)
def xF.f (k : Nat) (a0_0 : Int) (a0_1 : Int) (a0_2 : Int) (a0_3 : Int) (l0_4 : List Int) (a1 : Int) (a2 : Int) (a3 : Int) : Option (Bool) := (wM.f a0_0 a0_1 a0_2 a0_3 l0_4 1048576).bind fun t478 => (if t478 < 0 then (some true) else ((yZ.f k a0_0 a0_1 a0_2 a0_3 l0_4).bind fun bt479 => ((xD.f k bt479.1 bt479.2.1 bt479.2.2.1 bt479.2.2.2.1 bt479.2.2.2.2 a1 a2 a3).bind fun bt486 => ((yZ.f k a0_0 a0_1 a0_2 a0_3 l0_4).bind fun bt490 => ((yS.f k bt490.1 bt490.2.1 bt490.2.2.1 bt490.2.2.2.1 bt490.2.2.2.2 a1 a2 a3).bind fun bt498 => ((yN.f k bt498.1 bt486.1).bind fun t502 => (if t502 = true then (if bt498.2 = bt486.2 then ((yZ.f k a0_0 a0_1 a0_2 a0_3 l0_4).bind fun bt503 => ((xJ.f k bt490.1 bt490.2.1 bt490.2.2.1 bt490.2.2.2.1 bt490.2.2.2.2 bt503.1 bt503.2.1 bt503.2.2.1 bt503.2.2.2.1 bt503.2.2.2.2).bind fun t510 => (if t510 = true then ((xH.f k bt490.1 bt490.2.1 bt490.2.2.1 bt490.2.2.2.1 bt490.2.2.2.2 1).bind fun bt511 => (if bt511.1 < 0 then (none) else ((yN.f k bt498.1 bt486.1).bind fun t513 => (if t513 = true then ((yQ.f k bt498.1 1).bind fun bt514 => ((yL.f k bt514.2 1).bind fun t516 => (if t516 < 0 then (none) else (if t516 = bt514.1 then ((yZ.f k a0_0 a0_1 a0_2 a0_3 l0_4).bind fun bt517 => ((yS.f k bt517.1 bt517.2.1 bt517.2.2.1 bt517.2.2.2.1 bt517.2.2.2.2 a1 a2 a3).bind fun bt524 => ((yN.f k bt524.1 bt486.1).bind fun t528 => (if t528 = true then (if bt524.2 = bt486.2 then ((yL.f k bt514.2 1).bind fun t529 => (if t529 < 0 then (none) else (if t529 = bt514.1 then (some true) else (none)))) else (none)) else (none))))) else (none))))) else (none))))) else (none)))) else (none)) else (none))))))))
theorem xF.mono : ∀ a0 a1 a2 a3 a4 a5 a6 a7 k, LeO (xF.f k a0 a1 a2 a3 a4 a5 a6 a7) (xF.f (k + 1) a0 a1 a2 a3 a4 a5 a6 a7) := by
 intro a0 a1 a2 a3 a4 a5 a6 a7 k
 unfold xF.f
 repeat' first
   | (with_reducible exact yS.mono _ _ _ _ _ _ _ _ _)
   | (with_reducible exact yN.mono _ _ _)
   | (with_reducible exact xJ.mono _ _ _ _ _ _ _ _ _ _ _)
   | (with_reducible exact yL.mono _ _ _)
   | (with_reducible exact yQ.mono _ _ _)
   | (with_reducible exact xH.mono _ _ _ _ _ _ _)
   | (with_reducible exact yZ.mono _ _ _ _ _ _)
   | (with_reducible exact xD.mono _ _ _ _ _ _ _ _ _)
   | (with_reducible exact LeO.refl _)
   | (with_reducible exact LeO.none _)
   | (with_reducible refine LeO.ite ?_ ?_)
   | (with_reducible refine LeO.bind ?_ (fun _ => ?_))
   | refine LeO.ite ?_ ?_
   | refine LeO.bind ?_ (fun _ => ?_)
def xV.f (k : Nat) (a0_0 : Int) (a0_1 : Int) (a0_2 : Int) (a0_3 : Int) (l0_4 : List Int) (a1 : Int) (a2 : Int) (a3 : Int) : Option (Int × Int) := (yS.f k a0_0 a0_1 a0_2 a0_3 l0_4 a1 a2 a3).bind fun bt430 => (if bt430.2 = 0 then (if 0 ≤ (wrap64 (a3 - 1)) then (if (wrap64 (a3 - 1)) < (bt430.1.length : Int) then (some (wrap64 ((rd bt430.1 (wrap64 (a3 - 1))) + a2), 0)) else (none)) else (none)) else (some (0, bt430.2)))
theorem xV.mono : ∀ a0 a1 a2 a3 a4 a5 a6 a7 k, LeO (xV.f k a0 a1 a2 a3 a4 a5 a6 a7) (xV.f (k + 1) a0 a1 a2 a3 a4 a5 a6 a7) := by
 intro a0 a1 a2 a3 a4 a5 a6 a7 k
 unfold xV.f
 repeat' first
   | (with_reducible exact yS.mono _ _ _ _ _ _ _ _ _)
   | (with_reducible exact LeO.refl _)
   | (with_reducible exact LeO.none _)
   | (with_reducible refine LeO.ite ?_ ?_)
   | (with_reducible refine LeO.bind ?_ (fun _ => ?_))
   | refine LeO.ite ?_ ?_
   | refine LeO.bind ?_ (fun _ => ?_)
def xW.f (k : Nat) (a0_0 : Int) (a0_1 : Int) (a0_2 : Int) (a0_3 : Int) (l0_4 : List Int) (a1 : Int) (a2 : Int) (a3 : Int) : Option (Int × Int) := (xD.f k a0_0 a0_1 a0_2 a0_3 l0_4 a1 a2 a3).bind fun bt248 => (if bt248.2 = 0 then (if 0 ≤ (wrap64 (a3 - 1)) then (if (wrap64 (a3 - 1)) < (bt248.1.length : Int) then (some (wrap64 ((rd bt248.1 (wrap64 (a3 - 1))) + a2), 0)) else (none)) else (none)) else (some (0, bt248.2)))
theorem xW.mono : ∀ a0 a1 a2 a3 a4 a5 a6 a7 k, LeO (xW.f k a0 a1 a2 a3 a4 a5 a6 a7) (xW.f (k + 1) a0 a1 a2 a3 a4 a5 a6 a7) := by
 intro a0 a1 a2 a3 a4 a5 a6 a7 k
 unfold xW.f
 repeat' first
   | (with_reducible exact xD.mono _ _ _ _ _ _ _ _ _)
   | (with_reducible exact LeO.refl _)
   | (with_reducible exact LeO.none _)
   | (with_reducible refine LeO.ite ?_ ?_)
   | (with_reducible refine LeO.bind ?_ (fun _ => ?_))
   | refine LeO.ite ?_ ?_
   | refine LeO.bind ?_ (fun _ => ?_)
end Go.Proofs.Ytioendlbpendpaa.X
