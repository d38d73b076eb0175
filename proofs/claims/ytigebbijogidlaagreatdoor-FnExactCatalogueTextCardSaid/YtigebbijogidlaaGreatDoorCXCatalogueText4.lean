/- What the code computes, and what it means: part 4 of the proof of FnExactCatalogueText. No condition of its own. -/
import Derived.WalkKit
import Derived.WalkSmall
import Derived.Ground.NamesProg
import Derived.Shelf.Lay
import Derived.Shelf.Strconv.Itoa4
import Derived.Shelf.Strings.OnBuilder
import Derived.Sort.Grow
import Derived.Deep.Slices
import Derived.OpenShut
import Derived.ShutString
import Derived.ChangeOld
import Derived.SizedLaws
import Derived.Handed
import Derived.Shelf.Vars
import Derived.Stop.LaidErr
import Derived.Lib.LaidTab
import Derived.Test.YtigebbijogidlaaGreatDoorCXCatalogueText3
namespace Go.Proofs.YtigebbijogidlaaGreatDoorFv
open Go Go.Proofs
set_option maxRecDepth 10000
abbrev G6 := M4 × Int × Int
def vg (g : G6) : V := .ag [.int .i64 g.1.1, .int .i64 g.1.2.1, .int .i64 g.1.2.2.1, .int .i64 g.1.2.2.2, .int .i64 g.2.1, .int .i64 g.2.2]
def gs (l : List G6) : List V := l.map vg
abbrev aG6 (g : G6) : A := aG g.1.1 g.1.2.1 g.1.2.2.1 g.1.2.2.2 g.2.1 g.2.2
def smallG (g : G6) : Prop := (g.1.1.natAbs ≤ 1000 ∧ g.1.2.1.natAbs ≤ 1000) ∧ (g.1.2.2.1.natAbs ≤ 1000 ∧ g.1.2.2.2.natAbs ≤ 1000) ∧ g.2.1.natAbs ≤ 1000 ∧ g.2.2.natAbs ≤ 1000
def mvV (a b c : Int) (g : G6) (v : Int × Int) : Int × Int := (redX a b c (g.1.1 * v.1 + g.1.2.1 * v.2 + g.2.1) (g.1.2.2.1 * v.1 + g.1.2.2.2 * v.2 + g.2.2), (g.1.2.2.1 * v.1 + g.1.2.2.2 * v.2 + g.2.2) % c)
theorem s_smove (a b c : Int) (g : G6) (x y : Int) (hg : smallG g) (ha : 1 ≤ a ∧ a ≤ 64) (hb : 0 ≤ b ∧ b < a) (hc : 1 ≤ c ∧ c ≤ 64) (hx : x.natAbs ≤ 1000 ∧ y.natAbs ≤ 1000) : Sp Tryz.prog 315 [aL a b c, aG6 g, aV x y] (aV (mvV a b c g (x, y)).1 (mvV a b c g (x, y)).2) [] := by
  refine sp_of (m := no) mixed Tryz.func315 k315 ?_
  obtain ⟨g1, g2, g3⟩ := hg
  have h1 := mul_bd g1.1 hx.1
  have h2 := mul_bd g1.2 hx.2
  have h3 := mul_bd g2.1 hx.1
  have h4 := mul_bd g2.2 hx.2
  simp -dsimp [q]
  refine call_of (s_sgapply _ _ _ _ _ _ x y ⟨g1, g2⟩ ⟨by omega, by omega⟩ ⟨by omega, by omega⟩) rfl (by simp) ?_
  try simp -dsimp
  try (first | exact fp_one (by decide) | refine fp_and (by decide) ?_)
  refine call_of (s_sreduce a b c _ _ ha hb hc (by omega) (by omega)) rfl (by simp) ?_
  try simp -dsimp
  try (first | exact fp_one (by decide) | refine fp_and (by decide) ?_)
  exact ⟨rfl, rfl⟩
def suitG (f a b c : Int) (g : G6) : Bool := suit f a b c g.1.1 g.1.2.1 g.1.2.2.1 g.1.2.2.2 g.2.1 g.2.2
theorem suit_small {f a b c : Int} (hf : 0 ≤ f ∧ f ≤ 1) {g : G6} (h : suitG f a b c g = true) : smallG g ∧ (g.1.1.natAbs ≤ 1 ∧ g.1.2.1.natAbs ≤ 1) ∧ (g.1.2.2.1.natAbs ≤ 1 ∧ g.1.2.2.2.natAbs ≤ 1) := by
  simp only [suitG, suit, Bool.and_eq_true] at h
  obtain ⟨h1, h2, _⟩ := pm_facts hf h.1.1
  have h3 := okV_spec.1 h.2
  exact ⟨⟨⟨by omega, by omega⟩, ⟨by omega, by omega⟩, by omega, by omega⟩, h1, h2⟩
def fixN (a b c : Int) (g : G6) (l : List (Int × Int)) : Nat := l.countP fun v => decide (mvV a b c g v = v)
theorem fixN_succ {a b c : Int} {g : G6} {l : List (Int × Int)} {i : Nat} {v : Int × Int} (h : l[i]? = some v) : fixN a b c g (l.take (i + 1)) = fixN a b c g (l.take i) + if mvV a b c g v = v then 1 else 0 := by
  unfold fixN
  rw [List.take_add_one, h, List.countP_append]
  simp [List.countP_cons]
end Go.Proofs.YtigebbijogidlaaGreatDoorFv
namespace Go.Proofs.YtigebbijogidlaaGreatDoorFv
open Go Go.Proofs
set_option maxRecDepth 10000
theorem mget_enc {α : Type} [DecidableEq α] (enc : α → V) (hi : ∀ x y, enc x = enc y → x = y) (S : List α) (x : α) : mget (enc x) (S.map fun y => (enc y, V.bool true)) = if x ∈ S then some (.bool true) else none := by
  induction S with
  | nil => rfl
  | cons y S ih =>
    simp only [List.map_cons, mget]
    by_cases h : enc y = enc x
    · rw [if_pos (by rw [cdec_true]; exact h), if_pos (by rw [hi _ _ h]; simp)]
    · rw [if_neg (by rw [cdec_true]; exact h), ih]
      have : x ≠ y := fun e => h (by rw [e])
      simp [this]
theorem mput_enc {α : Type} [DecidableEq α] (enc : α → V) (hi : ∀ x y, enc x = enc y → x = y) (S : List α) (x : α) : mput (enc x) (.bool true) (S.map fun y => (enc y, V.bool true)) = (if x ∈ S then S else S ++ [x]).map fun y => (enc y, V.bool true) := by
  induction S with
  | nil => rfl
  | cons y S ih =>
    simp only [List.map_cons, mput]
    by_cases h : enc y = enc x
    · rw [if_pos (by rw [cdec_true]; exact h), if_pos (by rw [hi _ _ h]; simp), List.map_cons, h]
    · rw [if_neg (by rw [cdec_true]; exact h), ih]
      have : x ≠ y := fun e => h (by rw [e])
      by_cases hx : x ∈ S <;> simp [this, hx]
def sE (S : List (Int × Int)) : List (V × V) := S.map fun y => (vv y, V.bool true)
theorem vv_inj (x y : Int × Int) (h : vv x = vv y) : x = y := by
  obtain ⟨a, b⟩ := x
  obtain ⟨c, d⟩ := y
  simp only [vv, V.ag.injEq, List.cons.injEq, V.int.injEq, true_and, and_true] at h
  rw [h.1, h.2]
@[simp] theorem sE_nil : sE [] = [] := rfl
@[simp] theorem sE_len (S : List (Int × Int)) : (sE S).length = S.length := by simp [sE]
@[simp] theorem sE_get (S : List (Int × Int)) (x y : Int) : lkA (.bool false) false (mget (.ag [.int .i64 x, .int .i64 y]) (sE S)) = .v (.bool (decide ((x, y) ∈ S))) := by
  have := mget_enc vv vv_inj S (x, y)
  rw [show V.ag [.int .i64 x, .int .i64 y] = vv (x, y) from rfl, sE, this]
  by_cases h : (x, y) ∈ S <;> simp [h, lkA]
@[simp] theorem sE_put (S : List (Int × Int)) (x y : Int) : mput (.ag [.int .i64 x, .int .i64 y]) (.bool true) (sE S) = sE (if (x, y) ∈ S then S else S ++ [(x, y)]) := by
  have := mput_enc vv vv_inj S (x, y)
  rw [show V.ag [.int .i64 x, .int .i64 y] = vv (x, y) from rfl, sE, this, sE]
  by_cases h : (x, y) ∈ S <;> simp [h]
@[simp] theorem sE_keyed (S : List (Int × Int)) (x y : Int) : keyed 2 [1, 1] (.ag [.int .i64 x, .int .i64 y]) (sE S) ↔ True := by
  simp only [keyed, iff_true]
  refine ⟨rfl, rfl, fun p hp => ?_⟩
  obtain ⟨v, _, rfl⟩ := List.mem_map.1 hp
  exact ⟨rfl, rfl⟩
def bs (l : List Bool) : List V := l.map .bool
@[simp] theorem bs_len (l : List Bool) : (bs l).length = l.length := by simp [bs]
@[simp] theorem bs_get (l : List Bool) (n : Nat) (K : V → Prop) : fA ((bs l)[n]?) K = ∀ a, l[n]? = some a → K (.bool a) := by unfold bs; exact fA_map
@[simp] theorem bs_set (l : List Bool) (n : Nat) (b : Bool) : (bs l).set n (.bool b) = bs (l.set n b) := by simp [bs, List.map_set]
@[simp] theorem bs_rep (n : Nat) (b : Bool) : List.replicate n (V.bool b) = bs (List.replicate n b) := by simp [bs]
@[simp] theorem bs_inj (a b : List Bool) : bs a = bs b ↔ a = b := by
  constructor
  · exact fun h => (List.map_inj_right (fun x y e => by cases e; rfl)).1 h
  · rintro rfl; rfl
theorem pigeon {α : Type} [BEq α] [LawfulBEq α] : ∀ (S C : List α), S.Nodup → (∀ x ∈ S, x ∈ C) → S.length ≤ C.length
  | [], _, _, _ => Nat.zero_le _
  | x :: S, C, hn, hs => by
    rw [List.nodup_cons] at hn
    have h1 := pigeon S (C.erase x) hn.2 (fun y hy => (List.mem_erase_of_ne (fun e => hn.1 (by rw [← e]; exact hy))).2 (hs y (List.mem_cons_of_mem _ hy)))
    have h2 := hs x List.mem_cons_self
    rw [List.length_erase_of_mem h2] at h1
    have := List.length_pos_of_mem h2
    simp only [List.length_cons]
    omega
/-! the cells of a lattice, and marks on them -/
abbrev cl (a c : Int) : List (Int × Int) := cellsL c.toNat a.toNat
def inC (a c : Int) (v : Int × Int) : Prop := (0 ≤ v.1 ∧ v.1 < a) ∧ 0 ≤ v.2 ∧ v.2 < c
theorem inC_mv {a b c : Int} (ha : 1 ≤ a) (hc : 1 ≤ c) (g : G6) (v : Int × Int) : inC a c (mvV a b c g v) := red_lt ha hc
def ix (c : Int) (v : Int × Int) : Nat := (v.1 * c + v.2).toNat
theorem cl_ix {a c : Int} (ha : 1 ≤ a) (hc : 1 ≤ c) {v : Int × Int} (hv : inC a c v) : (cl a c)[ix c v]? = some v := by
  obtain ⟨x, y⟩ := v
  obtain ⟨h1, h2⟩ := hv
  simp only at h1 h2
  have h3 := (num_lt' h1 h2).2
  obtain ⟨n, rfl⟩ : ∃ n : Nat, c = n := ⟨c.toNat, by omega⟩
  obtain ⟨k, rfl⟩ : ∃ k : Nat, a = k := ⟨a.toNat, by omega⟩
  obtain ⟨i, rfl⟩ : ∃ i : Nat, x = i := ⟨x.toNat, by omega⟩
  obtain ⟨j, rfl⟩ : ∃ j : Nat, y = j := ⟨y.toNat, by omega⟩
  have hk : ix (n : Int) ((i : Int), (j : Int)) = i * n + j := by
    simp only [ix]
    omega
  have hlt : i * n + j < k * n := by
    have : ((i * n + j : Nat) : Int) < ((k * n : Nat) : Int) := by simpa using h3.2
    omega
  unfold cl
  rw [hk, Int.toNat_natCast, Int.toNat_natCast, cellsL_get n (by omega) k _ hlt]
  have h4 : (i * n + j) / n = i := by
    rw [Nat.div_eq_iff (by omega)]
    omega
  have h5 : (i * n + j) % n = j := by
    have := Nat.div_add_mod (i * n + j) n
    rw [h4, Nat.mul_comm] at this
    omega
  rw [h4, h5]
theorem cl_at {a c : Int} (ha : 1 ≤ a) (hc : 1 ≤ c) {i : Nat} {v : Int × Int} (h : (cl a c)[i]? = some v) : inC a c v ∧ ix c v = i := by
  obtain ⟨x, y⟩ := v
  obtain ⟨h1, _, h3⟩ := cell_of ha hc h
  exact ⟨h1, by simp only [ix]; omega⟩
theorem num_ix {a b c : Int} {v : Int × Int} (hv : inC a c v) : num a b c v.1 v.2 = v.1 * c + v.2 ∧ (0 ≤ v.1 * c + v.2 ∧ v.1 * c + v.2 < a * c) := by
  obtain ⟨h1, h2⟩ := hv
  refine ⟨?_, (num_lt' h1 h2).2⟩
  simp only [num, redX]
  rw [Int.ediv_eq_zero_of_lt h2.1 h2.2, Int.emod_eq_of_lt h2.1 h2.2, Int.zero_mul, Int.sub_zero, Int.emod_eq_of_lt h1.1 h1.2]
def marks (a c : Int) (S : List (Int × Int)) : List Bool := (cl a c).map fun v => decide (v ∈ S)
theorem marks_get {a c : Int} (ha : 1 ≤ a) (hc : 1 ≤ c) {v : Int × Int} (hv : inC a c v) (S : List (Int × Int)) : (marks a c S)[ix c v]? = some (decide (v ∈ S)) := by
  simp only [marks, List.getElem?_map, cl_ix ha hc hv, Option.map_some]
theorem marks_len {a c : Int} (S : List (Int × Int)) : (marks a c S).length = (cl a c).length := by simp [marks]
theorem marks_nil {a c : Int} : marks a c [] = List.replicate (cl a c).length false := by
  unfold marks
  rw [List.eq_replicate_iff]
  refine ⟨by simp, fun b hb => ?_⟩
  obtain ⟨v, _, rfl⟩ := List.mem_map.1 hb
  simp
theorem marks_set {a c : Int} (ha : 1 ≤ a) (hc : 1 ≤ c) {v : Int × Int} (hv : inC a c v) (S : List (Int × Int)) : (marks a c S).set (ix c v) true = marks a c (S ++ [v]) := by
  apply List.ext_getElem?
  intro j
  have hg := cl_ix ha hc hv
  rw [List.getElem?_set, marks_len]
  by_cases hj : ix c v = j
  · subst hj
    rw [if_pos rfl, if_pos (List.getElem?_eq_some_iff.1 hg).1]
    simp [marks, hg]
  · rw [if_neg hj]
    simp only [marks, List.getElem?_map]
    cases hw : (cl a c)[j]? with
    | none => rfl
    | some w =>
      have : w ≠ v := fun e => hj (by rw [← e]; exact (cl_at ha hc hw).2)
      simp [this]
/-! cycles -/
def wk (a b c : Int) (g : G6) : Nat → List (Int × Int) → Int × Int → List (Int × Int)
  | 0, S, _ => S
  | n + 1, S, u => if u ∈ S then S else wk a b c g n (S ++ [u]) (mvV a b c g u)
def wkF (a b c : Int) (g : G6) (S : List (Int × Int)) (u : Int × Int) : List (Int × Int) := wk a b c g ((cl a c).length + 1 - S.length) S u
def okSet (a c : Int) (S : List (Int × Int)) : Prop := S.Nodup ∧ ∀ v ∈ S, inC a c v
theorem okSet_len {a c : Int} (ha : 1 ≤ a) (hc : 1 ≤ c) {S : List (Int × Int)} (h : okSet a c S) : S.length ≤ (cl a c).length :=
  pigeon _ _ h.1 fun v hv => List.mem_of_getElem? (cl_ix ha hc (h.2 v hv))
theorem okSet_snoc {a c : Int} {S : List (Int × Int)} (h : okSet a c S) {u : Int × Int} (hu : inC a c u) (hn : u ∉ S) : okSet a c (S ++ [u]) := by
  refine ⟨?_, fun v hv => ?_⟩
  · rw [List.nodup_append]
    refine ⟨h.1, by simp, fun x hx y hy => ?_⟩
    simp only [List.mem_singleton] at hy
    subst hy
    exact fun e => hn (e ▸ hx)
  · rcases List.mem_append.1 hv with hv | hv
    · exact h.2 v hv
    · simp only [List.mem_singleton] at hv
      exact hv ▸ hu
theorem wkF_hit {a b c : Int} (ha : 1 ≤ a) (hc : 1 ≤ c) {g : G6} {S : List (Int × Int)} (h : okSet a c S) {u : Int × Int} (hu : u ∈ S) : wkF a b c g S u = S := by
  have := okSet_len ha hc h
  unfold wkF
  rw [show (cl a c).length + 1 - S.length = ((cl a c).length - S.length) + 1 by omega]
  simp [wk, hu]
theorem wkF_miss {a b c : Int} (ha : 1 ≤ a) (hc : 1 ≤ c) {g : G6} {S : List (Int × Int)} (h : okSet a c S) {u : Int × Int} (hi : inC a c u) (hu : u ∉ S) : wkF a b c g S u = wkF a b c g (S ++ [u]) (mvV a b c g u) ∧ S.length < (cl a c).length := by
  have := okSet_len ha hc (okSet_snoc h hi hu)
  simp only [List.length_append, List.length_singleton] at this
  refine ⟨?_, by omega⟩
  unfold wkF
  rw [show (cl a c).length + 1 - S.length = ((cl a c).length + 1 - (S ++ [u]).length) + 1 by simp; omega]
  simp [wk, hu]
def cy1 (a b c : Int) (g : G6) (st : List (Int × Int) × Nat) (v : Int × Int) : List (Int × Int) × Nat := if v ∈ st.1 then st else (wkF a b c g st.1 v, st.2 + 1)
def cyS (a b c : Int) (g : G6) (l : List (Int × Int)) : List (Int × Int) × Nat := l.foldl (cy1 a b c g) ([], 0)
theorem cyS_succ {a b c : Int} {g : G6} {l : List (Int × Int)} {i : Nat} {v : Int × Int} (h : l[i]? = some v) : cyS a b c g (l.take (i + 1)) = cy1 a b c g (cyS a b c g (l.take i)) v := by
  unfold cyS
  rw [List.take_add_one, h, List.foldl_append]
  rfl
theorem wk_ok {a b c : Int} (ha : 1 ≤ a) (hc : 1 ≤ c) {g : G6} : ∀ (n : Nat) (S : List (Int × Int)) (u : Int × Int), okSet a c S → inC a c u → okSet a c (wk a b c g n S u)
  | 0, S, u, h, _ => h
  | n + 1, S, u, h, hu => by
    simp only [wk]
    split
    · exact h
    · rename_i hn
      exact wk_ok ha hc n _ _ (okSet_snoc h hu hn) (inC_mv ha hc g u)
theorem cyS_ok {a b c : Int} (ha : 1 ≤ a) (hc : 1 ≤ c) {g : G6} : ∀ i, okSet a c (cyS a b c g ((cl a c).take i)).1 ∧ (cyS a b c g ((cl a c).take i)).2 ≤ i
  | 0 => by simp [cyS, okSet]
  | i + 1 => by
    obtain ⟨h1, h2⟩ := cyS_ok ha hc (g := g) i
    cases hv : (cl a c)[i]? with
    | none =>
      rw [List.take_of_length_le (by have := List.getElem?_eq_none_iff.1 hv; omega)]
      rw [List.take_of_length_le (by have := List.getElem?_eq_none_iff.1 hv; omega)] at h1 h2
      exact ⟨h1, by omega⟩
    | some v =>
      rw [cyS_succ hv]
      unfold cy1
      split
      · exact ⟨h1, by omega⟩
      · exact ⟨wk_ok ha hc _ _ _ h1 (cl_at ha hc hv).1, by simp only; omega⟩
end Go.Proofs.YtigebbijogidlaaGreatDoorFv
namespace Go.Proofs.YtigebbijogidlaaGreatDoorFv
open Go Go.Proofs
set_option maxRecDepth 10000
@[simp] theorem gs_nil : gs [] = [] := rfl
@[simp] theorem gs_len (l : List G6) : (gs l).length = l.length := by simp [gs]
@[simp] theorem gs_get (l : List G6) (n : Nat) (K : V → Prop) : fA ((gs l)[n]?) K = ∀ g, l[n]? = some g → K (.ag [.int .i64 g.1.1, .int .i64 g.1.2.1, .int .i64 g.1.2.2.1, .int .i64 g.1.2.2.2, .int .i64 g.2.1, .int .i64 g.2.2]) := by unfold gs; exact fA_map
@[simp] theorem gs_app (l : List G6) (a b c d x y : Int) : gs l ++ [.ag [.int .i64 a, .int .i64 b, .int .i64 c, .int .i64 d, .int .i64 x, .int .i64 y]] = gs (l ++ [((a, b, c, d), x, y)]) := by simp [gs, vg]
@[simp] theorem gs_set (l : List G6) (n : Nat) (a b c d x y : Int) : (gs l).set n (.ag [.int .i64 a, .int .i64 b, .int .i64 c, .int .i64 d, .int .i64 x, .int .i64 y]) = gs (l.set n ((a, b, c, d), x, y)) := by simp [gs, vg, List.map_set]
@[simp] theorem gs_flat (l : List G6) : (∀ x, x ∈ gs l → x.flat = true) ↔ True := by
  simp only [iff_true]
  intro x hx
  obtain ⟨y, _, rfl⟩ := List.mem_map.1 hx
  rfl
theorem vg_inj (g h : G6) (e : vg g = vg h) : g = h := by
  obtain ⟨⟨a, b, c, d⟩, x, y⟩ := g
  obtain ⟨⟨a', b', c', d'⟩, x', y'⟩ := h
  simp only [vg, V.ag.injEq, List.cons.injEq, V.int.injEq, true_and, and_true] at e
  obtain ⟨rfl, rfl, rfl, rfl, rfl, rfl⟩ := e
  rfl
@[simp] theorem gs_inj (a b : List G6) : gs a = gs b ↔ a = b := by
  constructor
  · exact fun h => (List.map_inj_right (fun x y e => vg_inj x y e)).1 h
  · rintro rfl; rfl
abbrev vgs (l : List G6) : V := .sl 6 (gs l)
def gE (S : List G6) : List (V × V) := S.map fun y => (vg y, V.bool true)
@[simp] theorem gE_nil : gE [] = [] := rfl
@[simp] theorem gE_get (S : List G6) (a b c d x y : Int) : lkA (.bool false) false (mget (.ag [.int .i64 a, .int .i64 b, .int .i64 c, .int .i64 d, .int .i64 x, .int .i64 y]) (gE S)) = .v (.bool (decide (((a, b, c, d), x, y) ∈ S))) := by
  have := mget_enc vg vg_inj S ((a, b, c, d), x, y)
  rw [show V.ag [.int .i64 a, .int .i64 b, .int .i64 c, .int .i64 d, .int .i64 x, .int .i64 y] = vg ((a, b, c, d), x, y) from rfl, gE, this]
  by_cases h : ((a, b, c, d), x, y) ∈ S <;> simp [h, lkA]
@[simp] theorem gE_put (S : List G6) (a b c d x y : Int) : mput (.ag [.int .i64 a, .int .i64 b, .int .i64 c, .int .i64 d, .int .i64 x, .int .i64 y]) (.bool true) (gE S) = gE (if ((a, b, c, d), x, y) ∈ S then S else S ++ [((a, b, c, d), x, y)]) := by
  have := mput_enc vg vg_inj S ((a, b, c, d), x, y)
  rw [show V.ag [.int .i64 a, .int .i64 b, .int .i64 c, .int .i64 d, .int .i64 x, .int .i64 y] = vg ((a, b, c, d), x, y) from rfl, gE, this, gE]
  by_cases h : ((a, b, c, d), x, y) ∈ S <;> simp [h]
@[simp] theorem gE_keyed (S : List G6) (a b c d x y : Int) : keyed 6 [1, 1, 1, 1, 1, 1] (.ag [.int .i64 a, .int .i64 b, .int .i64 c, .int .i64 d, .int .i64 x, .int .i64 y]) (gE S) ↔ True := by
  simp only [keyed, iff_true]
  refine ⟨rfl, rfl, fun p hp => ?_⟩
  obtain ⟨v, _, rfl⟩ := List.mem_map.1 hp
  exact ⟨rfl, rfl⟩
/-! the order -/
def lexLt : List Int → List Int → Bool
  | x :: xs, y :: ys => if x = y then lexLt xs ys else decide (x < y)
  | _, _ => false
theorem lexLt_irr : ∀ xs, lexLt xs xs = false
  | [] => rfl
  | x :: xs => by simp [lexLt, lexLt_irr xs]
theorem lexLt_trans : ∀ {xs ys zs : List Int}, xs.length = ys.length → ys.length = zs.length → lexLt xs ys = true → lexLt ys zs = true → lexLt xs zs = true
  | [], _, _, _, _, h, _ => by simp [lexLt] at h
  | x :: xs, [], _, h, _, _, _ => by simp at h
  | x :: xs, y :: ys, [], _, h, _, _ => by simp at h
  | x :: xs, y :: ys, z :: zs, h1, h2, h3, h4 => by
    simp only [lexLt] at h3 h4 ⊢
    split at h3 <;> split at h4 <;> split
    · exact lexLt_trans (by simpa using h1) (by simpa using h2) h3 h4
    · exfalso; omega
    · exfalso; rename_i e1 e2 e3; simp at h4; omega
    · simp at h4 ⊢; omega
    · exfalso; rename_i e1 e2 e3; simp at h3; omega
    · simp at h3 ⊢; omega
    · simp at h3 h4; omega
    · simp at h3 h4 ⊢; omega
theorem lexLt_at : ∀ {xs ys : List Int} {i : Nat} {x y : Int}, xs.take i = ys.take i → xs[i]? = some x → ys[i]? = some y → x ≠ y → lexLt xs ys = decide (x < y) ∧ xs ≠ ys
  | [], _, _, _, _, _, h, _, _ => by simp at h
  | _ :: _, [], _, _, _, _, _, h, _ => by simp at h
  | a :: xs, b :: ys, 0, x, y, _, h1, h2, hn => by
    simp only [List.getElem?_cons_zero, Option.some.injEq] at h1 h2
    subst h1 h2
    simp [lexLt, hn]
  | a :: xs, b :: ys, i + 1, x, y, h, h1, h2, hn => by
    simp only [List.take_succ_cons, List.cons.injEq] at h
    obtain ⟨rfl, h⟩ := h
    have := lexLt_at h (by simpa using h1) (by simpa using h2) hn
    simp [lexLt, this.1, this.2]
theorem lexLt_app : ∀ {xs ys us vs : List Int}, xs.length = ys.length → lexLt (xs ++ us) (ys ++ vs) = if xs = ys then lexLt us vs else lexLt xs ys
  | [], [], _, _, _ => by simp
  | [], _ :: _, _, _, h => by simp at h
  | _ :: _, [], _, _, h => by simp at h
  | x :: xs, y :: ys, us, vs, h => by
    have := lexLt_app (us := us) (vs := vs) (show xs.length = ys.length by simpa using h)
    simp only [List.cons_append, lexLt]
    by_cases e : x = y
    · subst e
      simp only [if_true, this, List.cons.injEq, true_and]
    · simp [e]
theorem s_cmpN (xs ys : List Int) (hl : xs.length = ys.length) (hx : xs.length ≤ 1048576) : Sp Tryz.prog 158 [.v (vis xs), .v (vis ys)] (vi (if xs = ys then 0 else if lexLt xs ys = true then -1 else 1)) [] := by
  refine sp_of (m := no) mixed Tryz.func158 k158 ?_
  simp -dsimp [q]
  refine awp_it (true :: true :: false :: false :: false :: false :: false :: true :: true :: []) (fun i : Nat => [(8, vi i)]) (fun i => []) (fun i => i ≤ xs.length ∧ xs.take i = ys.take i) (fun i => xs.length - i) 0 ?_
  intro s0 e
  simp -dsimp at e
  subst e
  refine ⟨?_, ?_⟩
  · simp
  rintro i ⟨hi, ht⟩
  simp -dsimp
  refine ⟨fun h1 => ⟨h1, fun x hx' => ⟨by omega, fun y hy' => ⟨fun hn => ?_, fun e => ?_⟩⟩⟩, fun h1 => ?_⟩
  · have hl2 := lexLt_at ht hx' hy' hn
    simp -dsimp [hx', hy', hl2]
    exact ⟨by omega, by omega⟩
  · subst e
    refine ⟨i + 1, by rw [w64 (by omega) (by omega)]; simp, ⟨by omega, ?_⟩, by omega⟩
    rw [List.take_add_one, List.take_add_one, ht, hx', hy']
  · rw [List.take_of_length_le h1, List.take_of_length_le (by omega)] at ht
    exact fun hn => absurd ht hn
theorem s_lessL (xs ys : List Int) (hl : xs.length = ys.length) (hx : xs.length ≤ 1048576) : Sp Tryz.prog 161 [.v (vis xs), .v (vis ys)] (vb (lexLt xs ys)) [] := by
  refine sp_of (m := no) mixed Tryz.func161 k161 ?_
  simp -dsimp [q]
  refine awp_it (true :: true :: false :: false :: false :: true :: []) (fun i : Nat => [(5, vi i)]) (fun i => []) (fun i => i ≤ xs.length ∧ xs.take i = ys.take i) (fun i => xs.length - i) 0 ?_
  intro s0 e
  simp -dsimp at e
  subst e
  refine ⟨?_, ?_⟩
  · simp
  rintro i ⟨hi, ht⟩
  simp -dsimp
  refine ⟨fun h1 => ⟨fun h2 => ⟨h1, fun x hx' => ⟨h2, fun y hy' => ⟨fun hn => ?_, fun e => ?_⟩⟩⟩, fun h2 => ?_⟩, fun h1 => ?_⟩
  · refine ⟨h1, fun x2 hx2 => ⟨h2, fun y2 hy2 => ?_⟩⟩
    rw [hx'] at hx2
    rw [hy'] at hy2
    cases hx2
    cases hy2
    exact (lexLt_at ht hx' hy' hn).1.symm
  · subst e
    refine ⟨i + 1, by rw [w64 (by omega) (by omega)]; simp, ⟨by omega, ?_⟩, by omega⟩
    rw [List.take_add_one, List.take_add_one, ht, hx', hy']
  · omega
  · rw [List.take_of_length_le h1, List.take_of_length_le (by omega)] at ht
    rw [ht, lexLt_irr]
    simp
def m4 (m : M4) : List Int := [m.1, m.2.1, m.2.2.1, m.2.2.2]
def t2 (v : Int × Int) : List Int := [v.1, v.2]
def ltG (g h : G6) : Bool := if g.1 = h.1 then lexLt (t2 g.2) (t2 h.2) else lexLt (m4 g.1) (m4 h.1)
theorem m4_inj (m n : M4) : m4 m = m4 n ↔ m = n := by
  constructor
  · intro h
    simp only [m4, List.cons.injEq, and_true] at h
    exact Prod.ext h.1 (Prod.ext h.2.1 (Prod.ext h.2.2.1 h.2.2.2))
  · rintro rfl; rfl
theorem ltG_lex (g h : G6) : ltG g h = lexLt (m4 g.1 ++ t2 g.2) (m4 h.1 ++ t2 h.2) := by
  have e : (m4 g.1).length = (m4 h.1).length := rfl
  rw [lexLt_app e]
  clear e
  unfold ltG
  by_cases e : g.1 = h.1
  · rw [if_pos e, if_pos (by rw [e])]
  · rw [if_neg e, if_neg (fun k => e ((m4_inj _ _).1 k))]
theorem ltG_irr (g : G6) : ltG g g = false := by rw [ltG_lex, lexLt_irr]
theorem ltG_trans {g h k : G6} (h1 : ltG g h = true) (h2 : ltG h k = true) : ltG g k = true := by
  rw [ltG_lex] at *
  exact lexLt_trans (ys := m4 h.1 ++ t2 h.2) rfl rfl h1 h2
theorem t2_inj (m n : Int × Int) : t2 m = t2 n ↔ m = n := by
  constructor
  · intro h
    simp only [t2, List.cons.injEq, and_true] at h
    exact Prod.ext h.1 h.2
  · rintro rfl; rfl
theorem s_cmpV (m n : Int × Int) : Sp Tryz.prog 290 [aV m.1 m.2, aV n.1 n.2] (vi (if m = n then 0 else if lexLt (t2 m) (t2 n) = true then -1 else 1)) [] := by
  refine sp_of (m := no) mixed Tryz.func290 k290 ?_
  have w := s_cmpN (t2 m) (t2 n) rfl (by simp [t2])
  simp only [t2_inj] at w
  simp -dsimp [q]
  refine call_of ((w : Sp Tryz.prog _ [.v (.sl 0 [.int .i64 m.1, .int .i64 m.2]), .v (.sl 0 [.int .i64 n.1, .int .i64 n.2])] _ _)) rfl (by simp) ?_
  try simp -dsimp
  try (first | exact fp_one (by decide) | refine fp_and (by decide) ?_)
theorem s_sless (x y x' y' : Int) : Sp Tryz.prog 287 [aV x y, aV x' y'] (vb (lexLt (t2 (x, y)) (t2 (x', y')))) [] := by
  refine sp_of (m := no) mixed Tryz.func287 k287 ?_
  simp -dsimp [q]
  refine ⟨fun h => ⟨fun e => ?_, fun e => ?_⟩, fun h => ?_⟩
  · simp [lexLt, t2, e]
    by_cases e2 : y = y' <;> simp [e2]
  · simp [lexLt, t2, e]
    omega
  · simp [lexLt, t2]
    rw [if_neg (by omega)]
    simpa using h
theorem s_nums (m : M4) : Sp Tryz.prog 338 [aM4 m] (.v (.sl 0 [.int .i64 m.1, .int .i64 m.2.1, .int .i64 m.2.2.1, .int .i64 m.2.2.2])) [] := by
  refine sp_of (m := no) mixed Tryz.func338 k338 ?_
  simp -dsimp [q]
theorem s_lessM (m n : M4) : Sp Tryz.prog 328 [aM4 m, aM4 n] (vb (lexLt (m4 m) (m4 n))) [] := by
  refine sp_of (m := no) mixed Tryz.func328 k328 ?_
  have w := s_lessL (m4 m) (m4 n) rfl (by simp [m4])
  simp -dsimp [q]
  refine call_of (s_nums m) rfl (by simp) ?_
  try simp -dsimp
  try (first | exact fp_one (by decide) | refine fp_and (by decide) ?_)
  refine call_of (s_nums n) rfl (by simp) ?_
  try simp -dsimp
  try (first | exact fp_one (by decide) | refine fp_and (by decide) ?_)
  refine call_of ((w : Sp Tryz.prog _ [.v (.sl 0 [.int .i64 m.1, .int .i64 m.2.1, .int .i64 m.2.2.1, .int .i64 m.2.2.2]), .v (.sl 0 [.int .i64 n.1, .int .i64 n.2.1, .int .i64 n.2.2.1, .int .i64 n.2.2.2])] _ _)) rfl (by simp) ?_
  try simp -dsimp
  try (first | exact fp_one (by decide) | refine fp_and (by decide) ?_)
theorem s_lessG (g h : G6) : Sp Tryz.prog 313 [aG6 g, aG6 h] (vb (ltG g h)) [] := by
  refine sp_of (m := no) mixed Tryz.func313 k313 ?_
  have w1 := s_lessM g.1 h.1
  have w2 := s_sless g.2.1 g.2.2 h.2.1 h.2.2
  simp -dsimp [q]
  refine ⟨fun hn => ?_, fun e1 e2 e3 e4 => ?_⟩
  · have e : ltG g h = lexLt (m4 g.1) (m4 h.1) := by
      unfold ltG
      rw [if_neg (fun e => by rw [e] at hn; exact hn rfl rfl rfl rfl)]
    rw [← e] at w1
    refine call_of (w1) rfl (by simp) ?_
    try simp -dsimp
    try (first | exact fp_one (by decide) | refine fp_and (by decide) ?_)
  · have e : ltG g h = lexLt (t2 g.2) (t2 h.2) := by
      unfold ltG
      rw [if_pos (Prod.ext e1 (Prod.ext e2 (Prod.ext e3 e4)))]
    rw [← e] at w2
    refine call_of (w2) rfl (by simp) ?_
    try simp -dsimp
    try (first | exact fp_one (by decide) | refine fp_and (by decide) ?_)
/-! searching -/
def srt (l : List G6) : Prop := l.Pairwise fun g h => ltG g h = true
theorem srt_get {l : List G6} (h : srt l) {i j : Nat} {g k : G6} (hi : l[i]? = some g) (hj : l[j]? = some k) (hij : i < j) : ltG g k = true := by
  obtain ⟨hi', rfl⟩ := List.getElem?_eq_some_iff.1 hi
  obtain ⟨hj', rfl⟩ := List.getElem?_eq_some_iff.1 hj
  exact List.pairwise_iff_getElem.1 h i j hi' hj' hij
def plc (l : List G6) (m : G6) : Nat := l.findIdx fun x => !ltG x m
theorem plc_eq {l : List G6} {m : G6} {k : Nat} (hk : k ≤ l.length) (h1 : ∀ (j : Nat) x, j < k → l[j]? = some x → ltG x m = true) (h2 : ∀ (j : Nat) x, k ≤ j → l[j]? = some x → ltG x m = false) : plc l m = k := by
  unfold plc
  by_cases e : k < l.length
  · refine (List.findIdx_eq e).2 ⟨by simp [h2 k l[k] (Nat.le_refl _) (List.getElem?_eq_getElem e)], fun j hj => ?_⟩
    simp [h1 j l[j] hj (List.getElem?_eq_getElem (by omega))]
  · have : k = l.length := by omega
    subst this
    rw [List.findIdx_eq_length]
    intro x hx
    obtain ⟨j, hj⟩ := List.getElem?_of_mem hx
    simp [h1 j x (List.getElem?_eq_some_iff.1 hj).1 hj]
def plI (l : List G6) (m : G6) (lo hi : Nat) : Prop := lo ≤ hi ∧ hi ≤ l.length ∧ (∀ (j : Nat) x, j < lo → l[j]? = some x → ltG x m = true) ∧ ∀ (j : Nat) x, hi ≤ j → l[j]? = some x → ltG x m = false
theorem s_place (l : List G6) (m : G6) (hs : srt l) (hl : l.length ≤ 1048576) : Sp Tryz.prog 299 [.v (vgs l), aG6 m] (vi (plc l m)) [] := by
  refine sp_of (m := no) mixed Tryz.func299 k299 ?_
  simp -dsimp [q]
  refine awp_it (true :: false :: false :: true :: false :: true :: true :: []) (fun s : Nat × Nat => [(5, vi s.1), (6, vi s.2)]) (fun s => []) (fun s => plI l m s.1 s.2) (fun s => s.2 - s.1) (0, l.length) ?_
  intro s0 e
  simp -dsimp at e
  subst e
  refine ⟨?_, ?_⟩
  · refine ⟨by simp, by simp, by simp, fun j x hj => by simp at hj, fun j x hj hx => ?_⟩
    have := (List.getElem?_eq_some_iff.1 hx).1
    simp only at hj
    omega
  rintro ⟨lo, hi⟩ ⟨k1, k2, k3, k4⟩
  simp only at k1 k2 k3 k4
  simp -dsimp [-Prod.forall, -Prod.exists]
  refine ⟨fun h1 => ?_, fun h1 => ?_⟩
  · have e : IntKind.i64.wrap ((IntKind.i64.wrap ((lo : Int) + hi)).tdiv 2) = ((lo + hi) / 2 : Nat) := by
      rw [w64 (n := (lo : Int) + hi) (by omega) (by omega), Int.tdiv_eq_ediv_of_nonneg (by omega), w64 (by omega) (by omega)]
      omega
    rw [e]
    generalize hm : (lo + hi) / 2 = md
    have hm1 : lo ≤ md ∧ md < hi := by omega
    refine ⟨⟨by omega, by omega⟩, fun x hx => ?_⟩
    rw [Int.toNat_natCast] at hx
    refine call_of (s_lessG x m) rfl (by simp) ?_
    try simp -dsimp
    try (first | exact fp_one (by decide) | refine fp_and (by decide) ?_)
    refine ⟨fun hlt => ⟨md + 1, hi, ⟨by rw [w64 (by omega) (by omega)]; simp, rfl⟩, ⟨by omega, by omega, fun j y hj hy => ?_, k4⟩, by omega⟩, fun hlt => ⟨lo, md, ⟨rfl, rfl⟩, ⟨by omega, by omega, k3, fun j y hj hy => ?_⟩, by omega⟩⟩
    · by_cases e2 : j = md
      · subst e2
        rw [hx] at hy
        cases hy
        exact hlt
      · exact ltG_trans (srt_get hs hy hx (by omega)) hlt
    · by_cases e2 : j = md
      · subst e2
        rw [hx] at hy
        cases hy
        exact hlt
      · cases hq : ltG y m with
        | false => rfl
        | true =>
          rw [ltG_trans (srt_get hs hx hy (by omega)) hq] at hlt
          cases hlt
  · rw [plc_eq (k := lo) (by omega) k3 (fun j x hj hx => k4 j x (by omega) hx)]
theorem plc_has {l : List G6} {m : G6} (hs : srt l) : (plc l m < l.length ∧ l[plc l m]? = some m) ↔ m ∈ l := by
  constructor
  · exact fun h => List.mem_of_getElem? h.2
  · intro h
    obtain ⟨j, hj⟩ := List.getElem?_of_mem h
    have hjl := (List.getElem?_eq_some_iff.1 hj).1
    have : plc l m = j := plc_eq (by omega) (fun i x hi hx => srt_get hs hx hj hi) (fun i x hi hx => by
      by_cases e : i = j
      · subst e
        rw [hj] at hx
        cases hx
        exact ltG_irr m
      · cases hq : ltG x m with
        | false => rfl
        | true =>
          have := ltG_trans (srt_get hs hj hx (by omega)) hq
          rw [ltG_irr] at this
          cases this)
    rw [this]
    exact ⟨hjl, hj⟩
theorem s_shas (l : List G6) (m : G6) (hs : srt l) (hl : l.length ≤ 1048576) : Sp Tryz.prog 278 [.v (vgs l), aG6 m] (vb (decide (m ∈ l))) [] := by
  refine sp_of (m := no) mixed Tryz.func278 k278 ?_
  have hp := plc_has (m := m) hs
  simp -dsimp [q, -Prod.forall, -Prod.exists]
  refine call_of (s_place l m hs hl) rfl (by simp) ?_
  try simp -dsimp
  try (first | exact fp_one (by decide) | refine fp_and (by decide) ?_)
  refine ⟨fun h1 => ⟨h1, fun a b c d x y hx => ?_⟩, fun h1 hm => ?_⟩
  · rw [Bool.eq_iff_iff, cdec_true, decide_eq_true_iff, ← hp, hx]
    obtain ⟨⟨a', b', c', d'⟩, x', y'⟩ := m
    simp only [Option.some.injEq, Prod.mk.injEq]
    constructor
    · rintro ⟨rfl, rfl, rfl, rfl, rfl, rfl⟩; exact ⟨h1, ⟨rfl, rfl, rfl, rfl⟩, rfl, rfl⟩
    · rintro ⟨_, ⟨rfl, rfl, rfl, rfl⟩, rfl, rfl⟩; exact ⟨rfl, rfl, rfl, rfl, rfl, rfl⟩
  · have := (hp.2 hm).1
    omega
end Go.Proofs.YtigebbijogidlaaGreatDoorFv
namespace Go.Proofs.YtigebbijogidlaaGreatDoorFv
open Go Go.Proofs
set_option maxRecDepth 10000
theorem s_own (l : List Int) (hl : l.length ≤ 1048576) : Sp Tryz.prog 56 [.v (vis l)] (.sli 0) [.row 0 2 (is l)] := by
  refine sp_of (m := no) mixed Tryz.func56 k56 ?_
  simp -dsimp [q]
  exact ⟨by omega, by omega⟩
theorem is_ne (l : List Int) (h : l ≠ []) : is l ≠ [] := by simpa [is] using h
theorem s_clone (l : List Int) (hl : l.length ≤ 1048576) (h0 : l ≠ []) : Sp Tryz.prog 114 [.v (vis l)] (.sli 0) [.row 0 2 (is l)] := by
  refine sp_of (m := no) mixed Tryz.func114 k114 ?_
  simp -dsimp [q]
  exact ⟨is_ne l h0, by omega, by omega⟩
def maskL (l : List Int) (ink : Int) : List Int := l.map fun x => if x = ink then 1 else 0
theorem maskL_len (l : List Int) (ink : Int) : (maskL l ink).length = l.length := by simp [maskL]
theorem maskL_take {l : List Int} {ink z : Int} {n : Nat} (h : l[n]? = some z) : (maskL l ink).take (n + 1) = (maskL l ink).take n ++ [if z = ink then 1 else 0] := by
  rw [List.take_add_one]
  simp [maskL, h]
abbrev ovI (p m : List Int) (ink : Int) (n : Nat) : List Int := setN (fun k => decide (m.getD k 0 = 1)) (fun k => k) (fun _ => ink) p n
abbrev ovS (a b c u v : Int) (p m : List Int) (ink : Int) (n : Nat) : List Int := setN (fun k => decide (m.getD k 0 = 1)) (mv a b c u v) (fun _ => ink) p n
end Go.Proofs.YtigebbijogidlaaGreatDoorFv
namespace Go.Proofs.YtigebbijogidlaaGreatDoorFv
open Go Go.Proofs
set_option maxRecDepth 10000
theorem lf_one {a : Int} (ha : 0 < a) : lstep (0, 0, 0) (a, 0) = (a, 0, 0) ∧ lstepS (0, 0, 0) (a, 0) = (a, 0, 0) := by
  have h : (a.natAbs : Int) = a := by omega
  simp [lstep, lstepS, eu, h]
theorem eu_two {a b c : Int} (hc : 0 < c) : eu c.natAbs (0, 0) (b, c) = ((b, c), (0, 0)) := by
  have h := eu_step (h := (0, 0)) (v := (b, c)) (show c ≠ 0 by omega)
  simp only at h
  rw [h]
  simp [eu]
theorem lf_two {a b c : Int} (ha : 0 < a) (hc : 0 < c) : lstep (a, 0, 0) (b, c) = (a, b, c) ∧ lstepS (a, 0, 0) (b, c) = (a, b % a, c) := by
  have h : (a.natAbs : Int) = a := by omega
  simp only [lstep, lstepS, eu_two (a := a) (b := b) hc, Int.gcd_zero_right, h, if_pos ha, and_self]
theorem lf_basis {a b c : Int} (ha : 0 < a) (hc : 0 < c) : lfold [(a, 0), (b, c)] = (a, b, c) ∧ lfoldS [(a, 0), (b, c)] = (a, b % a, c) := by
  simp only [lfold, lfoldS, List.foldl_cons, List.foldl_nil, lf_one ha, lf_two ha hc, and_self]
theorem take2 {α : Type} (x y : α) (P : List α → Prop) (h0 : P []) (h1 : P [x]) (h2 : P [x, y]) : ∀ k, P (([x, y] : List α).take k)
  | 0 => h0
  | 1 => h1
  | k + 2 => by simpa using h2
theorem ls_basis {a b c : Int} (ha : 1 ≤ a ∧ a ≤ 64) (hb : 0 ≤ b ∧ b < a) (hc : 1 ≤ c ∧ c ≤ 64) : lsmall [(a, 0), (b, c)] ∧ lsmallS [(a, 0), (b, c)] := by
  have hv : ∀ v ∈ ([(a, 0), (b, c)] : List (Int × Int)), smallV 1000000 v := by
    intro v hv
    simp only [List.mem_cons, List.not_mem_nil, or_false] at hv
    rcases hv with rfl | rfl <;> exact ⟨by simp only; omega, by simp only; omega⟩
  have h1 := lf_one (a := a) (by omega)
  have h2 := lf_basis (a := a) (b := b) (c := c) (by omega) (by omega)
  have h3 : b % a = b := Int.emod_eq_of_lt hb.1 hb.2
  refine ⟨⟨hv, take2 _ _ (fun l => smallV 1000000 (lfold l).2 ∧ (lfold l).1.natAbs ≤ 1000000) ?_ ?_ ?_⟩, hv, take2 _ _ (fun l => smallV 1000000 (lfoldS l).2 ∧ (lfoldS l).1.natAbs ≤ 1000000) ?_ ?_ ?_⟩
  · simp [lfold, smallV]
  · simp only [lfold, List.foldl_cons, List.foldl_nil, h1.1, smallV]; omega
  · rw [h2.1]; simp only [smallV]; omega
  · simp [lfoldS, smallV]
  · simp only [lfoldS, List.foldl_cons, List.foldl_nil, h1.2, smallV]; omega
  · rw [h2.2]; simp only [smallV]; omega
theorem s_latticeOf_basis (a b c : Int) (ha : 1 ≤ a ∧ a ≤ 64) (hb : 0 ≤ b ∧ b < a) (hc : 1 ≤ c ∧ c ≤ 64) : Sp Tryz.prog 166 [.v (vvs [(a, 0), (b, c)])] (aL a b c) [] := by
  have h := s_latticeOf [(a, 0), (b, c)] (by simp) (ls_basis ha hb hc).1 (by rw [(lf_basis (by omega) (by omega)).1]; simp only; omega)
  rw [(lf_basis (by omega) (by omega)).1] at h
  simp only [lfin, if_neg (show ¬ c < 0 by omega), Int.emod_eq_of_lt hb.1 hb.2] at h
  exact h
theorem s_hermite_basis (a b c : Int) (ha : 1 ≤ a ∧ a ≤ 64) (hb : 0 ≤ b ∧ b < a) (hc : 1 ≤ c ∧ c ≤ 64) : Sp Tryz.prog 226 [.v (vvs [(a, 0), (b, c)])] (aL a b c) [] := by
  have h := s_hermite [(a, 0), (b, c)] (by simp) (ls_basis ha hb hc).2 (by rw [(lf_basis (by omega) (by omega)).2]; simp only; omega)
  rw [(lf_basis (by omega) (by omega)).2] at h
  simp only [lfin, if_neg (show ¬ c < 0 by omega), Int.emod_eq_of_lt hb.1 hb.2] at h
  exact h
theorem s_sbasisL (a b c : Int) : Sp Tryz.prog 225 [aL a b c] (.v (.sl 2 [.ag [.int .i64 a, .int .i64 0], .ag [.int .i64 b, .int .i64 c]])) [] := s_sbasis a b c
theorem s_image1 (a b c : Int) (ha : 1 ≤ a ∧ a ≤ 64) (hb : 0 ≤ b ∧ b < a) (hc : 1 ≤ c ∧ c ≤ 64) : Sp Tryz.prog 152 [aM 1 0 0 1, aL a b c] (aL a b c) [] := by
  refine sp_of (m := no) mixed Tryz.func152 k152 ?_
  simp -dsimp [q]
  refine call_of (s_sbasisL a b c) rfl (by simp) ?_
  try simp -dsimp
  try (first | exact fp_one (by decide) | refine fp_and (by decide) ?_)
  refine call_of (s_sapply 1 0 0 1 a 0 (by decide) ⟨by omega, by omega⟩) rfl (by simp) ?_
  try simp -dsimp
  try (first | exact fp_one (by decide) | refine fp_and (by decide) ?_)
  refine call_of (s_sapply 1 0 0 1 b c (by decide) ⟨by omega, by omega⟩) rfl (by simp) ?_
  try simp -dsimp
  try (first | exact fp_one (by decide) | refine fp_and (by decide) ?_)
  refine call_of (s_hermite_basis a b c ha hb hc) rfl (by simp) ?_
  try simp -dsimp
  try (first | exact fp_one (by decide) | refine fp_and (by decide) ?_)
abbrev mvI (a b c u v : Int) (l : List Int) (n : Nat) : List Int := (List.range n).map fun j => l.getD (mv a b c (-u) (-v) j) 0
theorem mvI_take {a b c u v : Int} {l : List Int} {n i : Nat} (hi : i < n) : (mvI a b c u v l n).take (i + 1) = (mvI a b c u v l n).take i ++ [l.getD (mv a b c (-u) (-v) i) 0] := by
  rw [List.take_add_one]
  simp [mvI, List.getElem?_range hi]
theorem mvI_len {a b c u v : Int} {l : List Int} {n : Nat} : (mvI a b c u v l n).length = n := by simp [mvI]
theorem s_move1 (f a b c u v : Int) (l : List Int) (hf : okP f a b c l = true) (hu : u.natAbs ≤ 1000) (hv : v.natAbs ≤ 1000) : Sp Tryz.prog 109 [aP f a b c l, aG 1 0 0 1 u v] (aP f a b c (mvI a b c u v l l.length)) [] := by
  obtain ⟨_, h2, h3, _⟩ := okP_spec.1 hf
  obtain ⟨ha, hc, hb, hac⟩ := okL_spec.1 h2
  have h1 := ac_pos ha.1 hc.1
  have hn := nat_n ha.1 hc.1 h3
  refine sp_of (m := no) mixed Tryz.func109 k109 ?_
  simp -dsimp [q]
  refine call_of (s_basis a b c) rfl (by simp) ?_
  try simp -dsimp
  try (first | exact fp_one (by decide) | refine fp_and (by decide) ?_)
  refine call_of (s_apply 1 0 0 1 a 0 (by decide) ⟨by omega, by omega⟩) rfl (by simp) ?_
  try simp -dsimp
  try (first | exact fp_one (by decide) | refine fp_and (by decide) ?_)
  refine call_of (s_apply 1 0 0 1 b c (by decide) ⟨by omega, by omega⟩) rfl (by simp) ?_
  try simp -dsimp
  try (first | exact fp_one (by decide) | refine fp_and (by decide) ?_)
  refine call_of (s_latticeOf_basis a b c ha hb hc) rfl (by simp) ?_
  try simp -dsimp
  try (first | exact fp_one (by decide) | refine fp_and (by decide) ?_)
  refine call_of (s_ginv1 u v (by omega) (by omega)) rfl (by simp) ?_
  try simp -dsimp
  try (first | exact fp_one (by decide) | refine fp_and (by decide) ?_)
  refine call_of (s_cells a b c ha hc) rfl (by simp) ?_
  try simp -dsimp
  try (first | exact fp_one (by decide) | refine fp_and (by decide) ?_)
  refine awp_it (false :: false :: true :: false :: true :: false :: false :: true :: true :: false :: false :: false :: false :: false :: false :: false :: false :: false :: false :: false :: false :: false :: false :: false :: false :: false :: false :: false :: false :: false :: false :: false :: false :: false :: true :: true :: true :: []) (fun i : Nat => [(36, vi i)]) (fun i => match i with | 0 => [] | i + 1 => [(2, .box [vi f, vi a, vi b, vi c, .sli 5]), (5, .row 0 2 (is ((mvI a b c u v l l.length).take (i + 1))))]) (fun i => i ≤ l.length) (fun i => l.length - i) 0 ?_
  intro s0 e
  simp -dsimp at e
  subst e
  refine ⟨?_, ?_⟩
  · simp
  intro i hi
  cases i with
  | zero =>
    simp -dsimp [cellsL_len, hn]
    refine ⟨fun _ => ⟨by omega, fun x y hxy => ?_⟩, by rintro rfl; simp at h3; omega⟩
    obtain ⟨⟨k1, k2⟩, k3, _⟩ := cell_of ha.1 hc.1 hxy
    have k4 := k3 b (-u) (-v)
    have ht := mvI_take (a := a) (b := b) (c := c) (u := u) (v := v) (l := l) (show 0 < l.length by omega)
    simp only [List.take_zero, List.nil_append] at ht
    rw [k4] at ht
    refine call_of (s_gapply 1 0 0 1 (-u) (-v) x y (by decide) ⟨by omega, by omega⟩ ⟨by omega, by omega⟩) rfl (by simp) ?_
    try simp -dsimp
    try (first | exact fp_one (by decide) | refine fp_and (by decide) ?_)
    refine call_of (s_at f a b c (x + -u) (y + -v) l hf (by omega) (by omega)) rfl (by simp) ?_
    try simp -dsimp
    try (first | exact fp_one (by decide) | refine fp_and (by decide) ?_)
    refine ⟨1, ⟨by rw [w64 (by omega) (by omega)]; simp, ?_⟩, by omega, by omega⟩
    simp [ht]
  | succ i =>
    simp -dsimp [cellsL_len, hn]
    refine ⟨fun h5 => ⟨⟨by omega, h5⟩, by omega, fun x y hxy => ?_⟩, fun h5 => ?_⟩
    · obtain ⟨⟨k1, k2⟩, k3, _⟩ := cell_of ha.1 hc.1 hxy
      have k4 := k3 b (-u) (-v)
      have ht := mvI_take (a := a) (b := b) (c := c) (u := u) (v := v) (l := l) (show i + 1 < l.length by omega)
      rw [k4] at ht
      refine call_of (s_gapply 1 0 0 1 (-u) (-v) x y (by decide) ⟨by omega, by omega⟩ ⟨by omega, by omega⟩) rfl (by simp) ?_
      try simp -dsimp
      try (first | exact fp_one (by decide) | refine fp_and (by decide) ?_)
      refine call_of (s_at f a b c (x + -u) (y + -v) l hf (by omega) (by omega)) rfl (by simp) ?_
      try simp -dsimp
      try (first | exact fp_one (by decide) | refine fp_and (by decide) ?_)
      refine ⟨⟨by omega, by omega⟩, by decide, i + 2, ⟨by rw [w64 (by omega) (by omega)]; simp; omega, ?_⟩, by omega, by omega⟩
      simp [ht]
    · rw [List.take_of_length_le (by rw [mvI_len]; omega)]
theorem mvS_eq {a b c u v : Int} {l : List Int} (ha : 0 < a) (hc : 0 < c) (hl : (l.length : Int) = a * c) : setN (fun _ => true) (mv a b c u v) (fun k => l.getD k 0) (List.replicate l.length 0) l.length = mvI a b c u v l l.length := by
  apply List.ext_getElem?
  intro j
  by_cases hj : j < l.length
  · have h1 : mv a b c (-u) (-v) j < l.length := by have := mv_lt (b := b) (u := -u) (v := -v) ha hc j; omega
    rw [setN_get (p := fun _ => true) (i := mv a b c (-u) (-v) j) (m := l.length) (by simpa using hj) h1 (fun k hk => mv_iff ha hc (by omega) (by omega)) l.length (Nat.le_refl _)]
    simp [h1, hj, mvI, List.getElem?_range hj]
  · rw [List.getElem?_eq_none (by rw [setN_len]; simp; omega), List.getElem?_eq_none (by rw [mvI_len]; omega)]
theorem s_smove1 (f a b c u v : Int) (l : List Int) (hf : okP f a b c l = true) (hu : u.natAbs ≤ 1000) (hv : v.natAbs ≤ 1000) : Sp Tryz.prog 100 [aP f a b c l, aG 1 0 0 1 u v] (aP f a b c (mvI a b c u v l l.length)) [] := by
  obtain ⟨_, h2, h3, _⟩ := okP_spec.1 hf
  obtain ⟨ha, hc, hb, hac⟩ := okL_spec.1 h2
  have h1 := ac_pos ha.1 hc.1
  have hn := nat_n ha.1 hc.1 h3
  rw [← mvS_eq (by omega) (by omega) h3]
  refine sp_of (m := no) mixed Tryz.func100 k100 ?_
  simp -dsimp [q]
  refine call_of (s_image1 a b c ha hb hc) rfl (by simp) ?_
  try simp -dsimp
  try (first | exact fp_one (by decide) | refine fp_and (by decide) ?_)
  refine call_of (s_scells a b c ha hc) rfl (by simp) ?_
  try simp -dsimp
  try (first | exact fp_one (by decide) | refine fp_and (by decide) ?_)
  simp only [cellsL_len, hn]
  refine ⟨by omega, by decide, ?_⟩
  refine awp_it (false :: false :: true :: true :: true :: true :: true :: true :: true :: []) (fun i : Nat => [(8, vi i)]) (fun i => [(6, .row 0 2 (is (setN (fun _ => true) (mv a b c u v) (fun k => l.getD k 0) (List.replicate l.length 0) i)))]) (fun i => i ≤ l.length) (fun i => l.length - i) 0 ?_
  intro s0 e
  simp -dsimp at e
  subst e
  refine ⟨?_, ?_⟩
  · simp [setN]
  intro i hi
  simp -dsimp [setN_len, cellsL_len, hn]
  refine ⟨fun h5 => ⟨by omega, fun x y hxy => ?_⟩, fun h5 => ?_⟩
  · obtain ⟨⟨k1, k2⟩, k3, _⟩ := cell_of ha.1 hc.1 hxy
    have k4 := k3 b u v
    have k5 := num_range (a := a) (b := b) (c := c) (x := x + u) (y := y + v) (by omega) (by omega)
    refine call_of (s_sgapply 1 0 0 1 u v x y (by decide) ⟨by omega, by omega⟩ ⟨by omega, by omega⟩) rfl (by simp) ?_
    try simp -dsimp
    try (first | exact fp_one (by decide) | refine fp_and (by decide) ?_)
    refine call_of (s_snumber _ _ _ _ _ ha hb hc (by omega) (by omega)) rfl (by simp) ?_
    try simp -dsimp
    try (first | exact fp_one (by decide) | refine fp_and (by decide) ?_)
    refine ⟨h5, fun z hz => ?_⟩
    simp only [setN_len, List.length_replicate]
    refine ⟨⟨by omega, by omega⟩, by omega, by decide, i + 1, ⟨by rw [w64 (by omega) (by omega)]; simp, ?_⟩, by omega, by omega⟩
    simp [setN, k4, hz]
  · rw [show i = l.length by omega]
theorem s_equal (xs ys : List Int) (hx : xs.length ≤ 1048576) : Sp Tryz.prog 157 [.v (vis xs), .v (vis ys)] (vb (decide (xs = ys))) [] := by
  refine sp_of (m := no) mixed Tryz.func157 k157 ?_
  simp -dsimp [q]
  refine ⟨fun h e => h (by rw [e]), fun hl => ?_⟩
  refine awp_it (true :: true :: false :: false :: false :: false :: false :: false :: false :: false :: false :: false :: true :: true :: []) (fun i : Nat => [(13, vi i)]) (fun i => []) (fun i => i ≤ xs.length ∧ xs.take i = ys.take i) (fun i => xs.length - i) 0 ?_
  intro s0 e
  simp -dsimp at e
  subst e
  refine ⟨?_, ?_⟩
  · simp
  intro i hi
  simp -dsimp
  obtain ⟨hi, ht⟩ := hi
  refine ⟨fun h1 => ⟨h1, fun a ha => ⟨by omega, fun b hb => ⟨fun hn e => ?_, fun e => ⟨i + 1, by rw [w64 (by omega) (by omega)]; simp, ⟨by omega, ?_⟩, by omega⟩⟩⟩⟩, fun h1 => ?_⟩
  · subst e
    rw [ha] at hb
    cases hb
    exact hn rfl
  · subst e
    rw [List.take_add_one, List.take_add_one, ht, ha, hb]
  · have h2 : i = xs.length := by omega
    subst h2
    rw [List.take_length, List.take_of_length_le (by omega)] at ht
    exact ht
theorem s_ssame (xs ys : List Int) (hx : xs.length ≤ 1048576) : Sp Tryz.prog 121 [.v (vis xs), .v (vis ys)] (vb (decide (xs = ys))) [] := by
  refine sp_of (m := no) mixed Tryz.func121 k121 ?_
  simp -dsimp [q]
  refine ⟨fun h e => h (by rw [e]), fun hl => ?_⟩
  refine awp_it (true :: true :: false :: false :: false :: true :: []) (fun i : Nat => [(5, vi i)]) (fun i => []) (fun i => i ≤ xs.length ∧ xs.take i = ys.take i) (fun i => xs.length - i) 0 ?_
  intro s0 e
  simp -dsimp at e
  subst e
  refine ⟨?_, ?_⟩
  · simp
  intro i hi
  simp -dsimp
  obtain ⟨hi, ht⟩ := hi
  refine ⟨fun h1 => ⟨h1, fun a ha => ⟨by omega, fun b hb => ⟨fun hn e => ?_, fun e => ⟨i + 1, by rw [w64 (by omega) (by omega)]; simp, ⟨by omega, ?_⟩, by omega⟩⟩⟩⟩, fun h1 => ?_⟩
  · subst e
    rw [ha] at hb
    cases hb
    exact hn rfl
  · subst e
    rw [List.take_add_one, List.take_add_one, ht, ha, hb]
  · have h2 : i = xs.length := by omega
    subst h2
    rw [List.take_length, List.take_of_length_le (by omega)] at ht
    exact ht
theorem cdec_eq (p : Prop) [Decidable p] : cdec p = decide p := by
  by_cases h : p
  · rw [decide_eq_true h, cdec_true.2 h]
  · rw [decide_eq_false h, cdec_false.2 h]
theorem s_ssameP (f a b c : Int) (l : List Int) (f' a' b' c' : Int) (l' : List Int) (hl : l.length ≤ 1048576) : Sp Tryz.prog 75 [aP f a b c l, aP f' a' b' c' l'] (vb (decide (f = f' ∧ (a = a' ∧ b = b' ∧ c = c') ∧ l = l'))) [] := by
  refine sp_of (m := no) mixed Tryz.func75 k75 ?_
  simp -dsimp [q, cdec_eq]
  by_cases h1 : f = f'
  case neg => simp [h1]
  by_cases h2 : a = a' ∧ b = b' ∧ c = c'
  case neg =>
    refine ⟨fun _ => ⟨fun e1 e2 e3 => absurd ⟨e1, e2, e3⟩ h2, fun _ => ?_⟩, fun e => absurd h1 e⟩
    exact fun _ e1 e2 e3 => absurd ⟨e1, e2, e3⟩ h2
  obtain ⟨rfl, rfl, rfl⟩ := h2
  subst h1
  refine ⟨fun _ => ⟨fun _ _ _ => ?_, fun h => absurd rfl (h rfl rfl)⟩, fun e => absurd rfl e⟩
  refine call_of (s_ssame l l' hl) rfl (by simp) ?_
  try simp -dsimp
  try (first | exact fp_one (by decide) | refine fp_and (by decide) ?_)
/-! the search -/
def fR : Option (Int × Int) → Int × Int × Int
  | some t => (t.1, t.2, 0)
  | none => (0, 0, 4)
def fF (a b c : Int) (l l' : List Int) : Option (Int × Int) := (cellsL c.toNat a.toNat).find? fun t => decide (mvI a b c t.1 t.2 l l.length = l')
theorem find_hit {α : Type} {l : List α} {p : α → Bool} {i : Nat} {z : α} (hz : l[i]? = some z) (hp : p z = true) (hn : ∀ x ∈ l.take i, p x = false) : l.find? p = some z := by
  obtain ⟨hi, rfl⟩ := List.getElem?_eq_some_iff.1 hz
  refine List.find?_eq_some_iff_getElem.2 ⟨hp, i, hi, rfl, fun j hj => ?_⟩
  simp [hn l[j] (List.mem_take_iff_getElem.2 ⟨j, by omega, rfl⟩)]
theorem find_miss {α : Type} {l : List α} {p : α → Bool} {i : Nat} (hi : l.length ≤ i) (hn : ∀ x ∈ l.take i, p x = false) : l.find? p = none := by
  rw [List.take_of_length_le hi] at hn
  exact List.find?_eq_none.2 (fun x hx => by simp [hn x hx])
theorem mem_take_succ {α : Type} {l : List α} {i : Nat} {z x : α} (hz : l[i]? = some z) (hx : x ∈ l.take (i + 1)) : x ∈ l.take i ∨ x = z := by
  rw [List.take_add_one, hz] at hx
  simpa using hx
/-! what is not to be searched -/
end Go.Proofs.YtigebbijogidlaaGreatDoorFv
namespace Go.Proofs.YtigebbijogidlaaGreatDoorFv
open Go Go.Proofs
set_option maxRecDepth 10000
set_option maxHeartbeats 2000000
theorem s_reduceAny (a b c x y : Int) (ha : 1 ≤ a ∧ a ≤ 64) (hc : 1 ≤ c ∧ c ≤ 64) : ∃ X, ((0 ≤ X ∧ X < a) ∧ (inC a c (x, y) → X = x)) ∧ Sp Tryz.prog 237 [aL a b c, aV x y] (aV X (y % c)) [] := by
  refine ⟨(IntKind.i64.wrap (x - IntKind.i64.wrap (IntKind.i64.wrap ((IntKind.i64.wrap (y - y % c)).tdiv c) * b))) % a, ⟨⟨Int.emod_nonneg _ (by omega), Int.emod_lt_of_pos _ (by omega)⟩, fun h => ?_⟩, ?_⟩
  · obtain ⟨h1, h2⟩ := h
    simp only at h1 h2
    rw [Int.emod_eq_of_lt h2.1 h2.2, Int.sub_self, w64 (n := 0) (by omega) (by omega), Int.zero_tdiv, w64 (n := 0) (by omega) (by omega), Int.zero_mul, w64 (n := 0) (by omega) (by omega), Int.sub_zero, w64 (by omega) (by omega), Int.emod_eq_of_lt h1.1 h1.2]
  refine sp_of (m := no) mixed Tryz.func237 k237 ?_
  simp -dsimp [q]
  refine call_of (s_mod _ _ (by omega)) rfl (by simp) ?_
  try simp -dsimp
  try (first | exact fp_one (by decide) | refine fp_and (by decide) ?_)
  refine ⟨by omega, ?_⟩
  refine call_of (s_mod _ _ (by omega)) rfl (by simp) ?_
  try simp -dsimp
  try (first | exact fp_one (by decide) | refine fp_and (by decide) ?_)
def mulM (m n : M4) : M4 := (m.1 * n.1 + m.2.1 * n.2.2.1, m.1 * n.2.1 + m.2.1 * n.2.2.2, m.2.2.1 * n.1 + m.2.2.2 * n.2.2.1, m.2.2.1 * n.2.1 + m.2.2.2 * n.2.2.2)
def oneM (m : M4) : Prop := (m.1.natAbs ≤ 1 ∧ m.2.1.natAbs ≤ 1) ∧ m.2.2.1.natAbs ≤ 1 ∧ m.2.2.2.natAbs ≤ 1
theorem s_smmul (m n : M4) (hm : oneM m) (hn : oneM n) : Sp Tryz.prog 247 [aM4 m, aM4 n] (aM4 (mulM m n)) [] := by
  refine sp_of (m := no) mixed Tryz.func247 k247 ?_
  obtain ⟨⟨m1, m2⟩, m3, m4⟩ := hm
  obtain ⟨⟨n1, n2⟩, n3, n4⟩ := hn
  have h1 := mul_bd m1 n1
  have h2 := mul_bd m2 n3
  have h3 := mul_bd m1 n2
  have h4 := mul_bd m2 n4
  have h5 := mul_bd m3 n1
  have h6 := mul_bd m4 n3
  have h7 := mul_bd m3 n2
  have h8 := mul_bd m4 n4
  simp -dsimp [q]
  rw [w64 (n := m.1 * n.1) (by omega) (by omega), w64 (n := m.2.1 * n.2.2.1) (by omega) (by omega), w64 (n := m.1 * n.2.1) (by omega) (by omega), w64 (n := m.2.1 * n.2.2.2) (by omega) (by omega),
    w64 (n := m.2.2.1 * n.1) (by omega) (by omega), w64 (n := m.2.2.2 * n.2.2.1) (by omega) (by omega), w64 (n := m.2.2.1 * n.2.1) (by omega) (by omega), w64 (n := m.2.2.2 * n.2.2.2) (by omega) (by omega)]
  refine ⟨w64 (by omega) (by omega), w64 (by omega) (by omega), w64 (by omega) (by omega), w64 (by omega) (by omega)⟩
def mulG (g h : G6) : G6 := (mulM g.1 h.1, g.1.1 * h.2.1 + g.1.2.1 * h.2.2 + g.2.1, g.1.2.2.1 * h.2.1 + g.1.2.2.2 * h.2.2 + g.2.2)
def redG (a b c : Int) (g : G6) : G6 := (g.1, redX a b c g.2.1 g.2.2, g.2.2 % c)
def memG (a c : Int) (g : G6) : Prop := oneM g.1 ∧ inC a c g.2
theorem s_sgmul (g h : G6) (hg : oneM g.1 ∧ g.2.1.natAbs ≤ 1000 ∧ g.2.2.natAbs ≤ 1000) (hh : oneM h.1 ∧ h.2.1.natAbs ≤ 1000 ∧ h.2.2.natAbs ≤ 1000) : Sp Tryz.prog 277 [aG6 g, aG6 h] (aG6 (mulG g h)) [] := by
  refine sp_of (m := no) mixed Tryz.func277 k277 ?_
  have wm := s_smmul g.1 h.1 hg.1 hh.1
  obtain ⟨⟨⟨m1, m2⟩, m3, m4⟩, m5, m6⟩ := hg
  obtain ⟨_, n5, n6⟩ := hh
  have h1 := mul_bd m1 n5
  have h2 := mul_bd m2 n6
  have h3 := mul_bd m3 n5
  have h4 := mul_bd m4 n6
  simp -dsimp [q]
  refine call_of (wm) rfl (by simp) ?_
  try simp -dsimp
  try (first | exact fp_one (by decide) | refine fp_and (by decide) ?_)
  refine call_of (s_sapply _ _ _ _ _ _ ⟨⟨by omega, by omega⟩, by omega, by omega⟩ ⟨by omega, by omega⟩) rfl (by simp) ?_
  try simp -dsimp
  try (first | exact fp_one (by decide) | refine fp_and (by decide) ?_)
  refine call_of (s_sadd _ _ _ _ (by omega) (by omega) (by omega) (by omega)) rfl (by simp) ?_
  try simp -dsimp
  try (first | exact fp_one (by decide) | refine fp_and (by decide) ?_)
  exact ⟨rfl, rfl, rfl, rfl, rfl, rfl⟩
theorem s_sgred (a b c : Int) (g : G6) (ha : 1 ≤ a ∧ a ≤ 64) (hb : 0 ≤ b ∧ b < a) (hc : 1 ≤ c ∧ c ≤ 64) (hx : -1000000000 ≤ g.2.1 ∧ g.2.1 ≤ 1000000000) (hy : -1000000000 ≤ g.2.2 ∧ g.2.2 ≤ 1000000000) : Sp Tryz.prog 221 [aL a b c, aG6 g] (aG6 (redG a b c g)) [] := by
  refine sp_of (m := no) mixed Tryz.func221 k221 ?_
  simp -dsimp [q]
  refine call_of (s_sreduce a b c _ _ ha hb hc hx hy) rfl (by simp) ?_
  try simp -dsimp
  try (first | exact fp_one (by decide) | refine fp_and (by decide) ?_)
  exact ⟨rfl, rfl, rfl, rfl, rfl, rfl⟩
abbrev unG : G6 := ((1, 0, 0, 1), 0, 0)
theorem s_sun : Sp Tryz.prog 220 [] (aG6 unG) [] := by
  refine sp_of (m := no) mixed Tryz.func220 k220 ?_
  simp -dsimp [q]
  refine call_of (s_sunit) rfl (by simp) ?_
  try simp -dsimp
  try (first | exact fp_one (by decide) | refine fp_and (by decide) ?_)
/-! is it a group? -/
def elG (f a b c : Int) (g : G6) : Bool := pmOk f g.1 && keepL a b c g.1 && decide (0 ≤ g.2.1 ∧ g.2.1 < a) && decide (0 ≤ g.2.2 ∧ g.2.2 < c)
theorem elG_spec {f a b c : Int} (hf : 0 ≤ f ∧ f ≤ 1) {g : G6} (h : elG f a b c g = true) : oneM g.1 ∧ inC a c g.2 := by
  simp only [elG, Bool.and_eq_true, decide_eq_true_eq] at h
  obtain ⟨h1, h2, _⟩ := pm_facts hf h.1.1.1
  exact ⟨⟨⟨h1.1, h1.2⟩, h2.1, h2.2⟩, h.1.2, h.2⟩
def fst (f a b c : Int) (l : List G6) (i : Nat) : Prop := (∀ g ∈ l.take i, elG f a b c g = true) ∧ srt (l.take i)
theorem fst_succ {f a b c : Int} {l : List G6} {i : Nat} {g : G6} (hg : l[i]? = some g) : fst f a b c l (i + 1) ↔ (fst f a b c l i ∧ elG f a b c g = true ∧ ∀ p, 0 < i → l[i - 1]? = some p → ltG p g = true) := by
  unfold fst srt
  have e : l.take (i + 1) = l.take i ++ [g] := by rw [List.take_add_one, hg]; rfl
  rw [e, List.pairwise_append]
  constructor
  · rintro ⟨h1, h2, _, h3⟩
    refine ⟨⟨fun x hx => h1 x (by simp [hx]), h2⟩, h1 g (by simp), fun p hi hp => h3 p ?_ g (by simp)⟩
    exact List.mem_of_getElem? (i := i - 1) (by rw [List.getElem?_take_of_lt (by omega)]; exact hp)
  · rintro ⟨⟨h1, h2⟩, h3, h4⟩
    refine ⟨fun x hx => ?_, h2, by simp, fun x hx y hy => ?_⟩
    · rcases List.mem_append.1 hx with hx | hx
      · exact h1 x hx
      · simp only [List.mem_singleton] at hx; rw [hx]; exact h3
    · simp only [List.mem_singleton] at hy
      subst hy
      obtain ⟨j, hj⟩ := List.getElem?_of_mem hx
      have hji : j < i := by
        have := (List.getElem?_eq_some_iff.1 hj).1
        simp at this; omega
      have hil := (List.getElem?_eq_some_iff.1 hg).1
      obtain ⟨p, hp⟩ : ∃ p, l[i - 1]? = some p := ⟨_, List.getElem?_eq_getElem (show i - 1 < l.length by omega)⟩
      have h5 := h4 _ (by omega) hp
      by_cases ej : j = i - 1
      · subst ej
        rw [List.getElem?_take_of_lt (by omega), hp] at hj
        cases hj
        exact h5
      · exact ltG_trans (srt_get h2 hj (by rw [List.getElem?_take_of_lt (show i - 1 < i by omega)]; exact hp) (by omega)) h5
def prd (a b c : Int) (l : List G6) (i : Nat) : Prop := ∀ g ∈ l.take i, ∀ h ∈ l, redG a b c (mulG g h) ∈ l
def prd1 (a b c : Int) (l : List G6) (g : G6) (j : Nat) : Prop := ∀ h ∈ l.take j, redG a b c (mulG g h) ∈ l
def grp (f a b c : Int) (l : List G6) : Prop := fst f a b c l l.length ∧ unG ∈ l ∧ prd a b c l l.length
theorem fst_mono {f a b c : Int} {l : List G6} {i j : Nat} (h : i ≤ j) (k : fst f a b c l j) : fst f a b c l i := by
  have e : l.take i = (l.take j).take i := by rw [List.take_take, Nat.min_eq_left h]
  unfold fst srt at *
  rw [e]
  exact ⟨fun g hg => k.1 g (List.mem_of_mem_take hg), k.2.sublist (List.take_sublist _ _)⟩
theorem cdec_t {p : Prop} (h : p) : cdec p = true := cdec_true.2 h
theorem cdec_f {p : Prop} (h : ¬ p) : cdec p = false := cdec_false.2 h
theorem fst_new {f a b c : Int} {l : List G6} {i : Nat} {g : G6} (hg : l[i]? = some g) (h : fst f a b c l (i + 1)) : g ∉ l.take i := by
  intro hm
  obtain ⟨j, hj⟩ := List.getElem?_of_mem hm
  have hji : j < i := by
    have := (List.getElem?_eq_some_iff.1 hj).1
    simp at this; omega
  have := srt_get h.2 (i := j) (j := i) (g := g) (k := g) (by rw [List.getElem?_take_of_lt (by omega)] at hj ⊢; exact hj) (by rw [List.getElem?_take_of_lt (by omega)]; exact hg) hji
  rw [ltG_irr] at this
  cases this
end Go.Proofs.YtigebbijogidlaaGreatDoorFv
namespace Go.Proofs.YtigebbijogidlaaGreatDoorFv
open Go Go.Proofs
set_option maxRecDepth 10000
set_option maxHeartbeats 2000000
theorem pm_count (f : Int) (hf : 0 ≤ f ∧ f ≤ 1) : (pmL f 81).length ≤ 12 := by
  rcases (by omega : f = 0 ∨ f = 1) with rfl | rfl
  · decide +kernel
  · decide +kernel
theorem flat_len {α β : Type} (l : List α) (m : List β) : (l.flatMap fun x => m.map fun y => (x, y)).length = l.length * m.length := by
  induction l with
  | nil => simp
  | cons x l ih => simp [ih, Nat.succ_mul, Nat.add_comm]
theorem fst_len {f a b c : Int} {l : List G6} (hf : 0 ≤ f ∧ f ≤ 1) (ha : 1 ≤ a) (hc : 1 ≤ c) (hac : a * c ≤ 64) (h : fst f a b c l l.length) : l.length ≤ 768 := by
  obtain ⟨h1, h2⟩ := h
  rw [List.take_length] at h1 h2
  have hn : l.Nodup := h2.imp fun {x y} hxy e => by rw [e, ltG_irr] at hxy; cases hxy
  have := pigeon l ((pmL f 81).flatMap fun x => (cl a c).map fun y => (x, y)) hn (fun g hg => by
    have hg' := h1 g hg
    have h3 := (elG_spec hf hg').2
    simp only [elG, Bool.and_eq_true] at hg'
    refine List.mem_flatMap.2 ⟨g.1, (pmL_mem hf _ _ _ _).2 hg'.1.1.1, List.mem_map.2 ⟨g.2, List.mem_of_getElem? (cl_ix ha hc h3), rfl⟩⟩)
  rw [flat_len] at this
  have h4 := pm_count f hf
  have h5 : (cl a c).length ≤ 64 := by
    unfold cl
    rw [cellsL_len]
    have : ((a.toNat * c.toNat : Nat) : Int) = a * c := by rw [Int.natCast_mul, Int.toNat_of_nonneg (by omega), Int.toNat_of_nonneg (by omega)]
    omega
  have := Nat.mul_le_mul h4 h5
  omega
theorem elG_suit {f a b c : Int} (hf : 0 ≤ f ∧ f ≤ 1) (ha : 1 ≤ a ∧ a ≤ 64) (hc : 1 ≤ c ∧ c ≤ 64) {g : G6} : elG f a b c g = true ↔ (suitG f a b c g = true ∧ redG a b c g = g) := by
  constructor
  · intro h
    obtain ⟨_, h1, h2⟩ := elG_spec hf h
    simp only [elG, Bool.and_eq_true] at h
    refine ⟨?_, ?_⟩
    · simp only [suitG, suit, Bool.and_eq_true]
      exact ⟨h.1.1, okV_spec.2 (by omega)⟩
    · unfold redG redX
      rw [Int.ediv_eq_zero_of_lt h2.1 h2.2, Int.emod_eq_of_lt h2.1 h2.2, Int.zero_mul, Int.sub_zero, Int.emod_eq_of_lt h1.1 h1.2]
  · rintro ⟨h1, h2⟩
    simp only [suitG, suit, Bool.and_eq_true] at h1
    have h3 := red_lt (a := a) (b := b) (c := c) (x := g.2.1) (y := g.2.2) ha.1 hc.1
    have e1 : redX a b c g.2.1 g.2.2 = g.2.1 := congrArg (fun g : G6 => g.2.1) h2
    have e2 : g.2.2 % c = g.2.2 := congrArg (fun g : G6 => g.2.2) h2
    rw [e1, e2] at h3
    simp only [elG, Bool.and_eq_true, decide_eq_true_eq]
    exact ⟨⟨h1.1, h3.1⟩, h3.2⟩
end Go.Proofs.YtigebbijogidlaaGreatDoorFv
namespace Go.Proofs.YtigebbijogidlaaGreatDoorFv
open Go Go.Proofs
set_option maxRecDepth 10000
/-! lists of vectors -/
def okS (l : List (Int × Int)) : Bool := decide (l.length = 9) && l.all fun v => okV v.1 v.2
theorem all_not_any {α : Type} (l : List α) (p : α → Bool) : (!(l.any fun v => !p v)) = l.all p := by
  induction l with
  | nil => rfl
  | cons x l ih => simp only [List.any_cons, List.all_cons, Bool.not_or, Bool.not_not, ih]
/-! the prints -/
theorem okP_mask {f a b c : Int} {l : List Int} (ink : Int) (h : okP f a b c l = true) : okP f a b c (maskL l ink) = true := by
  rw [okP_spec] at h ⊢
  refine ⟨h.1, h.2.1, by rw [maskL_len]; exact h.2.2.1, fun n hn => ?_⟩
  obtain ⟨x, _, rfl⟩ := List.mem_map.1 hn
  split <;> omega
theorem ovS_eq {a b c u v : Int} {p m : List Int} {ink : Int} (ha : 0 < a) (hc : 0 < c) (hp : (p.length : Int) = a * c) (hm : m.length = p.length) : ovS a b c u v p m ink p.length = ovI p (mvI a b c u v m m.length) ink p.length := by
  apply List.ext_getElem?
  intro j
  by_cases hj : j < p.length
  · have h1 : mv a b c (-u) (-v) j < p.length := by have := mv_lt (b := b) (u := -u) (v := -v) ha hc j; omega
    rw [setN_get (i := mv a b c (-u) (-v) j) (m := p.length) hj h1 (fun k hk => mv_iff ha hc (by omega) (by omega)) p.length (Nat.le_refl _)]
    rw [setN_get (i := j) (m := p.length) hj hj (fun k hk => Iff.rfl) p.length (Nat.le_refl _)]
    simp [h1, hj, hm, mvI, List.getElem?_range hj]
  · rw [List.getElem?_eq_none (by rw [setN_len]; omega), List.getElem?_eq_none (by rw [setN_len]; omega)]
def prL (a b c : Int) (l : List Int) (sh : List (Int × Int)) : Nat → List Int
  | 0 => List.replicate l.length 0
  | k + 1 => ovI (prL a b c l sh k) (mvI a b c (sh.getD k (0, 0)).1 (sh.getD k (0, 0)).2 (maskL l (k + 1)) l.length) (k + 1) l.length
theorem prL_len {a b c : Int} {l : List Int} {sh : List (Int × Int)} : ∀ k, (prL a b c l sh k).length = l.length
  | 0 => by simp [prL]
  | k + 1 => by rw [prL, setN_len, prL_len k]
theorem okS_get {sh : List (Int × Int)} (h : okS sh = true) {k : Nat} {x y : Int} (hk : sh[k]? = some (x, y)) : x.natAbs ≤ 1000 ∧ y.natAbs ≤ 1000 := by
  simp only [okS, Bool.and_eq_true, List.all_eq_true] at h
  have := okV_spec.1 (h.2 _ (List.mem_of_getElem? hk))
  simp only at this
  omega
/-! all of it -/
abbrev zP : A := .ag [vi 0, vi 0, vi 0, vi 0, .nil 0]
def gapL (p r : List Int) : Nat → Int
  | 0 => 0
  | n + 1 => gapL p r n + if r.getD n 0 = 0 ∧ p.getD n 0 ≠ 0 then 1 else 0
theorem gapL_bd (p r : List Int) : ∀ n, 0 ≤ gapL p r n ∧ gapL p r n ≤ n
  | 0 => by simp [gapL]
  | n + 1 => by have := gapL_bd p r n; simp only [gapL]; split <;> omega
end Go.Proofs.YtigebbijogidlaaGreatDoorFv
namespace Go.Proofs.YtigebbijogidlaaGreatDoorFv
open Go Go.Proofs
set_option maxRecDepth 10000
set_option maxHeartbeats 1000000
@[simp] theorem gs_rep (n : Nat) (a b c d x y : Int) : List.replicate n (V.ag [.int .i64 a, .int .i64 b, .int .i64 c, .int .i64 d, .int .i64 x, .int .i64 y]) = gs (List.replicate n ((a, b, c, d), x, y)) := by simp [gs, vg]
/-! codes -/
def cellB (a c : Int) (v : Int × Int) : Bool := decide (0 ≤ v.1 ∧ v.1 ≤ a - 1) && decide (0 ≤ v.2 ∧ v.2 ≤ c - 1)
end Go.Proofs.YtigebbijogidlaaGreatDoorFv
namespace Go.Proofs.YtigebbijogidlaaGreatDoorFv
open Go Go.Proofs
set_option maxRecDepth 10000
set_option maxHeartbeats 1000000
/-! numbers of cells -/
theorem num_eq {a b c x y u w : Int} (ha : 0 < a) (hc : 0 < c) : num a b c x y = num a b c u w ↔ spn a b c (x - u) (y - w) := by
  constructor
  · intro h
    obtain ⟨p1, p2⟩ := cell_num (b := b) (x := x) (y := y) ha hc
    obtain ⟨q1, q2⟩ := cell_num (b := b) (x := u) (y := w) ha hc
    rw [h] at p1 p2
    have h1 : redX a b c x y = redX a b c u w := p1.symm.trans q1
    have h2 : y % c = w % c := p2.symm.trans q2
    unfold redX at h1
    have h3 := Int.emod_emod_of_dvd (x - y / c * b - (u - w / c * b)) (Int.dvd_refl a)
    obtain ⟨k, hk⟩ : a ∣ (x - y / c * b) - (u - w / c * b) := Int.dvd_of_emod_eq_zero (Int.emod_eq_emod_iff_emod_sub_eq_zero.1 h1)
    have e1 := Int.mul_ediv_add_emod y c
    have e2 := Int.mul_ediv_add_emod w c
    refine ⟨k, y / c - w / c, ?_, ?_⟩
    · rw [Int.sub_mul, Int.mul_comm k a]; omega
    · rw [Int.sub_mul, Int.mul_comm (y / c) c, Int.mul_comm (w / c) c]; omega
  · rintro ⟨i, j, h1, h2⟩
    have e1 : y = w + j * c := by omega
    have e2 : y % c = w % c := by rw [e1, Int.add_mul_emod_self_right]
    have e3 : y / c = w / c + j := by rw [e1, Int.add_mul_ediv_right _ _ (by omega)]
    unfold num redX
    rw [e2, e3, Int.add_mul, show x - (w / c * b + j * b) = (u - w / c * b) + i * a by omega, Int.add_mul_emod_self_right]
def atV (a b c : Int) (l : List Int) (v : Int × Int) : Int := l.getD (num a b c v.1 v.2).toNat 0
theorem atV_eq {a b c : Int} {l : List Int} {v w : Int × Int} (ha : 0 < a) (hc : 0 < c) (h : spn a b c (v.1 - w.1) (v.2 - w.2)) : atV a b c l v = atV a b c l w := by
  unfold atV
  rw [(num_eq ha hc).2 h]
/-! matrices -/
def apM (m : M4) (v : Int × Int) : Int × Int := (m.1 * v.1 + m.2.1 * v.2, m.2.2.1 * v.1 + m.2.2.2 * v.2)
def dtM (m : M4) : Int := m.1 * m.2.2.2 - m.2.1 * m.2.2.1
def iM (m : M4) (v : Int × Int) : Int × Int := (dtM m * m.2.2.2 * v.1 + -dtM m * m.2.1 * v.2, -dtM m * m.2.2.1 * v.1 + dtM m * m.1 * v.2)
theorem iM_ap {m : M4} (h : dtM m = 1 ∨ dtM m = -1) (v : Int × Int) : iM m (apM m v) = v := by
  obtain ⟨p, q, r, s⟩ := m
  obtain ⟨x, y⟩ := v
  simp only [iM, apM, dtM] at h ⊢
  have hd : (p * s - q * r) * (p * s - q * r) = 1 := by rcases h with h | h <;> rw [h] <;> rfl
  refine Prod.ext ?_ ?_ <;> simp only <;> grind
theorem ap_iM {m : M4} (h : dtM m = 1 ∨ dtM m = -1) (v : Int × Int) : apM m (iM m v) = v := by
  obtain ⟨p, q, r, s⟩ := m
  obtain ⟨x, y⟩ := v
  simp only [iM, apM, dtM] at h ⊢
  have hd : (p * s - q * r) * (p * s - q * r) = 1 := by rcases h with h | h <;> rw [h] <;> rfl
  refine Prod.ext ?_ ?_ <;> simp only <;> grind
theorem iM_lin (m : M4) (x y u v n : Int) : iM m (x + n * u, y + n * v) = ((iM m (x, y)).1 + n * (iM m (u, v)).1, (iM m (x, y)).2 + n * (iM m (u, v)).2) := by
  obtain ⟨p, q, r, s⟩ := m
  simp only [iM]
  refine Prod.ext ?_ ?_ <;> simp only <;> grind
theorem ap_lin (m : M4) (x y u v n : Int) : apM m (x + n * u, y + n * v) = ((apM m (x, y)).1 + n * (apM m (u, v)).1, (apM m (x, y)).2 + n * (apM m (u, v)).2) := by
  obtain ⟨p, q, r, s⟩ := m
  simp only [apM]
  refine Prod.ext ?_ ?_ <;> simp only <;> grind
/-- What the image of a lattice is. -/
structure Img (a b c : Int) (m : M4) (A B C : Int) : Prop where
  ok : okL A B C = true
  n : A * C = a * c
  iff : ∀ x y, spn A B C x y ↔ spn a b c (iM m (x, y)).1 (iM m (x, y)).2
theorem img_sub (a b c : Int) (m : M4) : Sub (fun x y => spn a b c (iM m (x, y)).1 (iM m (x, y)).2) where
  z := by simpa [iM] using (spn_sub a b c).z
  a := by
    intro x y u v n h1 h2
    rw [iM_lin]
    exact (spn_sub a b c).a n h1 h2
theorem img_of {a b c : Int} {m : M4} (h : okL a b c = true) (hm : dtM m = 1 ∨ dtM m = -1) {t : Int × Int × Int} (h1 : 0 < t.1) (h2 : t.2.2 ≠ 0)
    (hs : ∀ L, Sub L → ((L t.1 0 ∧ L t.2.1 t.2.2) ↔ (L (apM m (a, 0)).1 (apM m (a, 0)).2 ∧ L (apM m (b, c)).1 (apM m (b, c)).2))) : Img a b c m (lfin t).1 (lfin t).2.1 (lfin t).2.2 := by
  obtain ⟨ha, hc, hb, hac⟩ := okL_spec.1 h
  have s1 := (hs _ (spn_sub (lfin t).1 (lfin t).2.1 (lfin t).2.2)).1 ((sub_lfin (spn_sub _ _ _) t).1 ⟨spn_l _ _ _, spn_r _ _ _⟩)
  have s2 := (sub_lfin (img_sub a b c m) t).2 ((hs _ (img_sub a b c m)).2 ⟨by
    show spn a b c (iM m (apM m (a, 0))).1 (iM m (apM m (a, 0))).2
    rw [iM_ap hm]; exact spn_l _ _ _, by
    show spn a b c (iM m (apM m (b, c))).1 (iM m (apM m (b, c))).2
    rw [iM_ap hm]; exact spn_r _ _ _⟩)
  have f1 : 0 < (lfin t).1 := h1
  have f2 : 0 ≤ (lfin t).2.1 ∧ (lfin t).2.1 < (lfin t).1 := ⟨Int.emod_nonneg _ (by omega), Int.emod_lt_of_pos _ h1⟩
  have f3 : 0 < (lfin t).2.2 := by
    simp only [lfin]
    split <;> omega
  generalize lfin t = r at *
  obtain ⟨A, B, C⟩ := r
  simp only at *
  have d1 := spn_det s1.1 s1.2
  have d2 := spn_det s2.1 s2.2
  have e1 : (apM m (a, 0)).1 * (apM m (b, c)).2 - (apM m (a, 0)).2 * (apM m (b, c)).1 = dtM m * (a * c) := by
    obtain ⟨p, q, r, s⟩ := m
    simp only [apM, dtM]
    grind
  have e2 : (iM m (A, 0)).1 * (iM m (B, C)).2 - (iM m (A, 0)).2 * (iM m (B, C)).1 = dtM m * (A * C) := by
    obtain ⟨p, q, r, s⟩ := m
    simp only [iM, dtM] at hm ⊢
    have hd : (p * s - q * r) * (p * s - q * r) = 1 := by rcases hm with h | h <;> rw [h] <;> rfl
    grind
  rw [e1] at d1
  rw [e2] at d2
  have d1 : A * C ∣ a * c := by
    rcases hm with e | e <;> rw [e] at d1
    · rwa [Int.one_mul] at d1
    · rw [Int.neg_mul, Int.one_mul] at d1; exact Int.dvd_neg.1 d1
  have d2 : a * c ∣ A * C := by
    rcases hm with e | e <;> rw [e] at d2
    · rwa [Int.one_mul] at d2
    · rw [Int.neg_mul, Int.one_mul] at d2; exact Int.dvd_neg.1 d2
  have hn : A * C = a * c := Int.dvd_antisymm (Int.mul_nonneg (by omega) (by omega)) (Int.mul_nonneg (by omega) (by omega)) d1 d2
  refine ⟨okL_spec.2 ⟨⟨by omega, ?_⟩, ⟨by omega, ?_⟩, f2, by omega⟩, hn, fun x y => ⟨?_, ?_⟩⟩
  · have := Int.mul_le_mul_of_nonneg_left (show (1 : Int) ≤ C by omega) (show 0 ≤ A by omega)
    omega
  · have := Int.mul_le_mul_of_nonneg_right (show (1 : Int) ≤ A by omega) (show 0 ≤ C by omega)
    omega
  · rintro ⟨i, j, rfl, rfl⟩
    have := (img_sub a b c m).a j ((img_sub a b c m).m i s2.1) s2.2
    rw [Int.mul_zero, Int.zero_add] at this
    exact this
  · rintro ⟨i, j, k1, k2⟩
    have e : (x, y) = apM m (i * a + j * b, j * c) := by
      rw [← k1, ← k2]
      show (x, y) = apM m (iM m (x, y))
      rw [ap_iM hm]
    have := (spn_sub A B C).a j ((spn_sub A B C).m i s1.1) s1.2
    have e3 := ap_lin m (i * a) (i * 0) b c j
    have e4 := ap_lin m 0 0 a 0 i
    simp only [Int.mul_zero, Int.zero_add] at e3 e4
    rw [← e] at e3
    rw [e4] at e3
    have z : apM m (0, 0) = (0, 0) := by simp [apM]
    rw [z] at e3
    simp only [Int.zero_add] at e3
    rw [Prod.mk.injEq] at e3
    rw [e3.1, e3.2]
    exact this
theorem img_uniq {a b c : Int} {m : M4} {A B C A' B' C' : Int} (h : Img a b c m A B C) (k : Img a b c m A' B' C') : (A, B, C) = (A', B', C') := by
  obtain ⟨ha, hc, hb, _⟩ := okL_spec.1 h.ok
  obtain ⟨ha', hc', hb', _⟩ := okL_spec.1 k.ok
  have e : ∀ x y, spn A B C x y ↔ spn A' B' C' x y := fun x y => (h.iff x y).trans (k.iff x y).symm
  exact spn_uniq (by omega) hb (by omega) (by omega) hb' (by omega) ((e _ _).1 (spn_l _ _ _)) ((e _ _).1 (spn_r _ _ _)) ((e _ _).2 (spn_l _ _ _)) ((e _ _).2 (spn_r _ _ _))
/-! the program's way to the lattice of two vectors -/
theorem eu_bd {B : Nat} : ∀ (n : Nat) (h v : Int × Int), pot h v ≤ B → h.1.natAbs ≤ B → v.1.natAbs ≤ B → h.2.natAbs ≤ B → v.2.natAbs ≤ B → ((eu n h v).1.1.natAbs ≤ B ∧ (eu n h v).1.2.natAbs ≤ B) ∧ (eu n h v).2.1.natAbs ≤ B
  | 0, h, v, _, h1, h2, h3, _ => ⟨⟨h1, h3⟩, h2⟩
  | n + 1, h, v, hp, h1, h2, h3, h4 => by
    simp only [eu]
    by_cases hv : v.2 = 0
    · rw [if_pos hv]; exact ⟨⟨h1, h3⟩, h2⟩
    · rw [if_neg hv]
      have hs := Nat.le_trans pot_step hp
      have hq := hs
      unfold pot at hq
      simp only at hq
      have h5 : (h.1 - h.2.tdiv v.2 * v.1).natAbs ≤ B := by
        have h6 := Nat.le_mul_of_pos_right (h.1 - h.2.tdiv v.2 * v.1).natAbs (show 0 < v.2.natAbs by omega)
        omega
      have h7 := tmod_abs h.2 hv
      exact eu_bd n _ _ hs h2 h5 h4 (by simp only; omega)
theorem gcd_bd {a b : Int} {B : Nat} (ha : a.natAbs ≤ B) (hb : b.natAbs ≤ B) : Int.gcd a b ≤ B := by
  by_cases h : a = 0
  · subst h
    rw [Int.gcd_zero_left]
    exact hb
  · exact Nat.le_trans (Nat.le_of_dvd (by omega) (Int.gcd_dvd_natAbs_left a b)) ha
structure TwoI (x y u w : Int) : Prop where
  h : 0 < (lfold [(x, y), (u, w)]).1
  k : (lfold [(x, y), (u, w)]).2.2 ≠ 0
  s : lsmall [(x, y), (u, w)]
theorem lf_one' (x y : Int) : lfold [(x, y)] = if y = 0 then ((x.natAbs : Int), 0, 0) else (0, x, y) := by
  simp only [lfold, List.foldl_cons, List.foldl_nil, lstep]
  by_cases hy : y = 0
  · subst hy
    rw [if_pos rfl, eu_zero rfl]
    simp
  · have := eu_step (h := (0, 0)) (v := (x, y)) hy
    simp only at this
    rw [if_neg hy, this]
    simp [eu_zero]
theorem twoI {x y u w : Int} (hx : x.natAbs ≤ 300) (hy : y.natAbs ≤ 300) (hu : u.natAbs ≤ 300) (hw : w.natAbs ≤ 300) (hd : x * w - y * u ≠ 0) : TwoI x y u w := by
  have sp := (sub_lfold (spn_sub (lfold [(x, y), (u, w)]).1 (lfold [(x, y), (u, w)]).2.1 (lfold [(x, y), (u, w)]).2.2) [(x, y), (u, w)]).1 ⟨spn_l _ _ _, spn_r _ _ _⟩
  have s1 := sp (x, y) (by simp)
  have s2 := sp (u, w) (by simp)
  have dv := spn_det s1 s2
  have gz : (lfold [(x, y), (u, w)]).1 ≠ 0 := fun e => by rw [e, Int.zero_mul, Int.zero_dvd] at dv; exact hd dv
  have kz : (lfold [(x, y), (u, w)]).2.2 ≠ 0 := fun e => by rw [e, Int.mul_zero, Int.zero_dvd] at dv; exact hd dv
  have e1 := lf_one' x y
  have e2 : ((lfold [(x, y)]).2.1.natAbs ≤ 300 ∧ (lfold [(x, y)]).2.2.natAbs ≤ 300) ∧ (lfold [(x, y)]).1.natAbs ≤ 300 := by
    rw [e1]
    split
    · exact ⟨⟨by simp, by simp⟩, by simp only; omega⟩
    · exact ⟨⟨by simp only; omega, by simp only; omega⟩, by simp⟩
  have e3 : lfold [(x, y), (u, w)] = lstep (lfold [(x, y)]) (u, w) := rfl
  obtain ⟨s, hs⟩ : ∃ s, lfold [(x, y)] = s := ⟨_, rfl⟩
  rw [hs] at e2 e3
  obtain ⟨g, h⟩ := s
  simp only at e2
  have hp : pot h (u, w) ≤ 180000 := by
    unfold pot
    have q1 := Nat.mul_le_mul e2.1.1 hw
    have q2 := Nat.mul_le_mul hu e2.1.2
    simp only
    omega
  obtain ⟨⟨b1, b2⟩, b3⟩ := eu_bd w.natAbs h (u, w) hp (by omega) (by simp only; omega) (by omega) (by simp only; omega)
  have b4 := gcd_bd (a := g) (B := 180000) (by omega) b3
  have hv : ∀ v ∈ ([(x, y), (u, w)] : List (Int × Int)), smallV 1000000 v := by
    intro v hv
    simp only [List.mem_cons, List.not_mem_nil, or_false] at hv
    rcases hv with rfl | rfl <;> exact ⟨by simp only; omega, by simp only; omega⟩
  refine ⟨?_, kz, hv, takeTwo _ _ (fun l => smallV 1000000 (lfold l).2 ∧ (lfold l).1.natAbs ≤ 1000000) ⟨⟨by decide, by decide⟩, by decide⟩ ?_ ?_⟩
  · have : 0 ≤ (lfold [(x, y), (u, w)]).1 := by rw [e3]; simp only [lstep]; omega
    omega
  · rw [e1]
    split
    · exact ⟨⟨by simp, by simp⟩, by simp only; omega⟩
    · exact ⟨⟨by simp only; omega, by simp only; omega⟩, by simp⟩
  · rw [e3]
    refine ⟨⟨?_, ?_⟩, ?_⟩ <;> simp only [lstep] <;> omega
end Go.Proofs.YtigebbijogidlaaGreatDoorFv
namespace Go.Proofs.YtigebbijogidlaaGreatDoorFv
open Go Go.Proofs
set_option maxRecDepth 10000
set_option maxHeartbeats 1000000
theorem get_findIdx {α : Type} (p : α → Bool) : ∀ l : List α, l[l.findIdx p]? = l.find? p
  | [] => rfl
  | x :: l => by
    rw [List.findIdx_cons, List.find?_cons]
    cases h : p x
    · simpa using get_findIdx p l
    · simp
theorem ite_and_two {p q : Prop} [Decidable p] [Decidable q] (h : ¬ (p ∧ q)) : (if p then (if q then (0 : Int) else 2) else 2) = 2 := by
  split
  · rw [if_neg (fun hq => h ⟨by assumption, hq⟩)]
  · rfl
def mvB (a b c : Int) (u v : Int × Int) (g : G6) : Bool := decide (mvV a b c g u = v)
theorem mvB_cdec (a b c x y x' y' : Int) (g : G6) : cdec ((mvV a b c g (x, y)).1 = x' ∧ (mvV a b c g (x, y)).2 = y') = mvB a b c (x, y) (x', y') g := by
  rw [Bool.eq_iff_iff, cdec_true, mvB, decide_eq_true_iff]
  exact ⟨fun h => Prod.ext h.1 h.2, fun h => ⟨congrArg Prod.fst h, congrArg Prod.snd h⟩⟩
theorem grp_small {f a b c : Int} {l : List G6} (hf : 0 ≤ f ∧ f ≤ 1) (ha : 1 ≤ a ∧ a ≤ 64) (hc : 1 ≤ c ∧ c ≤ 64) (h : grp f a b c l) : ∀ g ∈ l, smallG g := fun g hg => by
  have h1 := h.1.1 g (by rw [List.take_length]; exact hg)
  exact (suit_small hf ((elG_suit hf ha hc).1 h1).1).1
theorem cell_small {a c : Int} (ha : 1 ≤ a ∧ a ≤ 64) (hc : 1 ≤ c ∧ c ≤ 64) {x y : Int} (h : cellB a c (x, y) = true) : x.natAbs ≤ 1000 ∧ y.natAbs ≤ 1000 := by
  simp only [cellB, Bool.and_eq_true, decide_eq_true_eq] at h
  omega
def mvR (o : Option G6) : G6 × Int := match o with
  | some g => (g, 0)
  | none => (((0, 0, 0, 0), 0, 0), 4)
end Go.Proofs.YtigebbijogidlaaGreatDoorFv
namespace Go.Proofs.YtigebbijogidlaaGreatDoorFv
open Go Go.Proofs
set_option maxRecDepth 10000
set_option maxHeartbeats 1000000
theorem gs_mget (M R : List G6) (g : G6) : (gs (M ++ g :: R))[M.length]? = some (.ag [.int .i64 g.1.1, .int .i64 g.1.2.1, .int .i64 g.1.2.2.1, .int .i64 g.1.2.2.2, .int .i64 g.2.1, .int .i64 g.2.2]) := by
  simp [gs, vg]
theorem gs_mset (M R : List G6) (g : G6) (a b c d x y : Int) : (gs (M ++ g :: R)).set M.length (.ag [.int .i64 a, .int .i64 b, .int .i64 c, .int .i64 d, .int .i64 x, .int .i64 y]) = gs (M ++ ((a, b, c, d), x, y) :: R) := by
  simp [gs, vg]
theorem gs_mgetI (M R : List G6) (g : G6) : (gs (M ++ g :: R))[((M.length : Nat) : Int).toNat]? = some (.ag [.int .i64 g.1.1, .int .i64 g.1.2.1, .int .i64 g.1.2.2.1, .int .i64 g.1.2.2.2, .int .i64 g.2.1, .int .i64 g.2.2]) := by
  rw [Int.toNat_natCast, gs_mget]
theorem gs_msetI (M R : List G6) (g : G6) (a b c d x y : Int) : (gs (M ++ g :: R)).set ((M.length : Nat) : Int).toNat (.ag [.int .i64 a, .int .i64 b, .int .i64 c, .int .i64 d, .int .i64 x, .int .i64 y]) = gs (M ++ ((a, b, c, d), x, y) :: R) := by
  rw [Int.toNat_natCast, gs_mset]
def mkG (k : Int) (n : Nat) : List G6 := (List.range n).map fun i : Nat => ((k + 6 * i, k + 6 * i + 1, k + 6 * i + 2, k + 6 * i + 3), k + 6 * i + 4, k + 6 * i + 5)
theorem mkG_len (k : Int) (n : Nat) : (mkG k n).length = n := by simp [mkG]
theorem mkG_succ (k : Int) (n : Nat) : mkG k (n + 1) = mkG k n ++ [((k + 6 * n, k + 6 * n + 1, k + 6 * n + 2, k + 6 * n + 3), k + 6 * n + 4, k + 6 * n + 5)] := by simp [mkG, List.range_succ]
theorem mkG_get {k : Int} {n i : Nat} (h : i < n) : (mkG k n)[i]? = some ((k + 6 * i, k + 6 * i + 1, k + 6 * i + 2, k + 6 * i + 3), k + 6 * i + 4, k + 6 * i + 5) := by
  simp [mkG, h]
/-! stabilisers -/
def stL (a b c : Int) (v : Int × Int) (l : List G6) : List G6 := l.filter (mvB a b c v v)
theorem stL_succ {a b c : Int} {v : Int × Int} {l : List G6} {i : Nat} {g : G6} (h : l[i]? = some g) : stL a b c v (l.take (i + 1)) = if mvB a b c v v g = true then stL a b c v (l.take i) ++ [g] else stL a b c v (l.take i) := by
  unfold stL
  rw [List.take_add_one, h, List.filter_append]
  cases hm : mvB a b c v v g <;> simp [hm]
theorem stL_len (a b c : Int) (v : Int × Int) (l : List G6) : (stL a b c v l).length ≤ l.length := List.length_filter_le _ _
end Go.Proofs.YtigebbijogidlaaGreatDoorFv
namespace Go.Proofs.YtigebbijogidlaaGreatDoorFv
open Go Go.Proofs
set_option maxRecDepth 10000
theorem eu_out : ∀ (n : Nat) (h v : Int × Int), 0 < h.2 → 0 ≤ v.2 → v.2.natAbs ≤ n → (eu n h v).2.2 = 0 ∧ 0 < (eu n h v).1.2 ∧ (eu n h v).1.2 ∣ h.2 ∧ (eu n h v).1.2 ∣ v.2 ∧ ((eu n h v).1 = h ∨ (eu n h v).1 = v ∨ (eu n h v).1.1.natAbs * (2 * (eu n h v).1.2.natAbs) ≤ pot h v)
  | 0, h, v, hh, hv, hn => by
    have : v.2 = 0 := by omega
    rw [eu_zero this, this]
    exact ⟨rfl, hh, Int.dvd_refl _, Int.dvd_zero _, .inl rfl⟩
  | n + 1, h, v, hh, hv, hn => by
    by_cases hz : v.2 = 0
    · rw [eu_zero hz, hz]
      exact ⟨rfl, hh, Int.dvd_refl _, Int.dvd_zero _, .inl rfl⟩
    have hp := pot_step (h := h) (v := v)
    simp only [eu, if_neg hz]
    have e1 : h.2.tmod v.2 = h.2 % v.2 := Int.tmod_eq_emod_of_nonneg (by omega)
    have e2 := Int.emod_nonneg h.2 hz
    have e3 := Int.emod_lt_of_pos h.2 (show 0 < v.2 by omega)
    have e4 := Int.emod_add_mul_ediv h.2 v.2
    obtain ⟨i1, i2, i3, i4, i5⟩ := eu_out n v (h.1 - h.2.tdiv v.2 * v.1, h.2.tmod v.2) (by omega) (by simp only; omega) (by simp only; omega)
    generalize eu n v (h.1 - h.2.tdiv v.2 * v.1, h.2.tmod v.2) = r at *
    generalize hw : h.1 - h.2.tdiv v.2 * v.1 = w1 at *
    simp only at i4 i5 hp
    rw [e1] at i4 i5 hp
    refine ⟨i1, i2, ?_, i3, ?_⟩
    · rw [← e4]
      exact Int.dvd_add i4 (Int.dvd_trans i3 (Int.dvd_mul_right _ _))
    · rcases i5 with i5 | i5 | i5
      · exact .inr (.inl i5)
      · refine .inr (.inr (Nat.le_trans ?_ hp))
        rw [i5] at i2 i3 ⊢
        simp only at i2 i3 ⊢
        obtain ⟨m, hm⟩ := i3
        have hm2 : 2 ≤ m := by
          rcases Int.lt_or_le m 2 with hlt | hge
          · exfalso
            have : (h.2 % v.2 : Int) * m ≤ (h.2 % v.2) * 1 := Int.mul_le_mul_of_nonneg_left (by omega) (by omega)
            omega
          · exact hge
        have hv2 : 2 * (h.2 % v.2).natAbs ≤ v.2.natAbs := by
          have := Int.mul_le_mul_of_nonneg_left hm2 (show 0 ≤ h.2 % v.2 by omega)
          omega
        unfold pot
        exact Nat.le_trans (Nat.mul_le_mul_left _ hv2) (Nat.le_add_left _ _)
      · exact .inr (.inr (Nat.le_trans i5 hp))
theorem eu_same {n : Nat} {h v : Int × Int} (hh : 0 < h.2) (hv : 0 ≤ v.2) (hn : v.2.natAbs ≤ n) (hd : h.2 ∣ v.2) : (eu n h v).1 = h ∨ (eu n h v).1 = v := by
  by_cases hz : v.2 = 0
  · rw [eu_zero hz]; exact .inl rfl
  obtain ⟨k, rfl⟩ : ∃ k, n = k + 1 := ⟨n - 1, by omega⟩
  simp only [eu, if_neg hz]
  by_cases he : v.2 = h.2
  · right
    rw [eu_zero (by simp only; rw [he, Int.tmod_self])]
  · left
    have hlt : h.2 < v.2 := by
      have := Int.le_of_dvd (by omega) hd
      omega
    have e1 : h.2.tmod v.2 = h.2 := by rw [Int.tmod_eq_emod_of_nonneg (by omega), Int.emod_eq_of_lt (by omega) hlt]
    have e2 : h.2.tdiv v.2 = 0 := Int.tdiv_eq_zero_of_lt (by omega) hlt
    rw [e1, e2, Int.zero_mul, Int.sub_zero]
    obtain ⟨j, rfl⟩ : ∃ j, k = j + 1 := ⟨k - 1, by omega⟩
    have e3 : v.2.tmod h.2 = 0 := by
      obtain ⟨m, hm⟩ := hd
      rw [hm, Int.mul_tmod_right]
    simp only [eu]
    rw [if_neg (by omega), eu_zero (by simp only; exact e3)]
def tm (c y : Int) : Int := if c < 2 * y then 1 else if c < 4 * y then 4 else if c < 8 * y then 20 else if c < 16 * y then 168 else if c < 32 * y then 2704 else if c < 64 * y then 86560 else 5539904
theorem tm_pos (c y : Int) : 1 ≤ tm c y := by
  unfold tm
  repeat' split
  all_goals omega
theorem tm_core {c y' A X Z t K : Int} (hy' : 0 < y') (hc : 0 ≤ c) (hA : 0 ≤ A) (hK : 0 ≤ K) (hX : X ≤ A * t) (hz : Z * (2 * y') ≤ (X + A) * c) (h : c ≤ K * (2 * y')) (ht : 0 ≤ t) : Z ≤ A * ((t + 1) * K) := by
  have h1 : (X + A) * c ≤ (A * (t + 1)) * c := Int.mul_le_mul_of_nonneg_right (by rw [Int.mul_add, Int.mul_one]; omega) hc
  have h2 : (A * (t + 1)) * c ≤ (A * (t + 1)) * (K * (2 * y')) := Int.mul_le_mul_of_nonneg_left h (Int.mul_nonneg hA (by omega))
  have h3 : Z * (2 * y') ≤ (A * ((t + 1) * K)) * (2 * y') := by
    have e : (A * ((t + 1) * K)) * (2 * y') = (A * (t + 1)) * (K * (2 * y')) := by ac_rfl
    rw [e]; omega
  exact Int.le_of_mul_le_mul_right h3 (by omega)
theorem tm_next {c y y' A X Z : Int} (hy' : 0 < y') (h2 : 2 * y' ≤ y) (hy : y ≤ c) (hc : c ≤ 64) (hA : 0 ≤ A) (hX : X ≤ A * tm c y) (hz : Z * (2 * y') ≤ (X + A) * c) : Z ≤ A * tm c y' := by
  have up : ∀ t : Int, tm c y ≤ t → X ≤ A * t := fun t ht => Int.le_trans hX (Int.mul_le_mul_of_nonneg_left ht hA)
  have tmy : (c < 2 * y → tm c y ≤ 1) ∧ (c < 4 * y → tm c y ≤ 4) ∧ (c < 8 * y → tm c y ≤ 20) ∧ (c < 16 * y → tm c y ≤ 168) ∧ (c < 32 * y → tm c y ≤ 2704) ∧ (c < 64 * y → tm c y ≤ 86560) := by
    unfold tm
    repeat' split
    all_goals omega
  obtain ⟨t1, t2, t3, t4, t5, t6⟩ := tmy
  have c0 : 0 ≤ c := by omega
  unfold tm
  split
  · omega
  split
  · exact tm_core (t := 1) (K := 2) hy' c0 hA (by omega) (up 1 (t1 (by omega))) hz (by omega) (by omega)
  split
  · exact tm_core (t := 4) (K := 4) hy' c0 hA (by omega) (up 4 (t2 (by omega))) hz (by omega) (by omega)
  split
  · exact tm_core (t := 20) (K := 8) hy' c0 hA (by omega) (up 20 (t3 (by omega))) hz (by omega) (by omega)
  split
  · exact tm_core (t := 168) (K := 16) hy' c0 hA (by omega) (up 168 (t4 (by omega))) hz (by omega) (by omega)
  split
  · exact tm_core (t := 2704) (K := 32) hy' c0 hA (by omega) (up 2704 (t5 (by omega))) hz (by omega) (by omega)
  · exact tm_core (t := 86560) (K := 64) hy' c0 hA (by omega) (up 86560 (t6 (by omega))) hz (by omega) (by omega)
theorem tm_small {a c y : Int} (ha : 1 ≤ a ∧ a ≤ 64) (hc : 1 ≤ c ∧ c ≤ 64) (hac : a * c ≤ 64) (hy : 0 < y) : 0 ≤ (a - 1) * tm c y ∧ (a - 1) * tm c y ≤ 100000 := by
  have key : ∀ K : Int, K ≤ c → a * K ≤ 64 := fun K hK => Int.le_trans (Int.mul_le_mul_of_nonneg_left hK (by omega)) hac
  have k1 := key 2
  have k2 := key 4
  have k3 := key 8
  have k4 := key 16
  have k5 := key 32
  have k6 := key 64
  unfold tm
  repeat' split
  all_goals omega
structure inv (a c : Int) (s : Int × Int × Int) : Prop where
  g : 0 < s.1 ∧ s.1 ∣ a
  y : 0 < s.2.2 ∧ s.2.2 ∣ c
  x : (s.2.1.natAbs : Int) ≤ (a - 1) * tm c s.2.2
theorem gcd_facts {g r a : Int} (hg : 0 < g) (ha : g ∣ a) : 0 < (Int.gcd g r : Int) ∧ (Int.gcd g r : Int) ∣ a := by
  have h1 : (Int.gcd g r : Int) ∣ g := Int.gcd_dvd_left ..
  refine ⟨?_, Int.dvd_trans h1 ha⟩
  rcases Nat.eq_zero_or_pos (Int.gcd g r) with h | h
  · rw [h] at h1
    have := Int.zero_dvd.1 h1
    omega
  · omega
theorem inv_step {a c : Int} (ha : 1 ≤ a ∧ a ≤ 64) (hc : 1 ≤ c ∧ c ≤ 64) {s : Int × Int × Int} (h : inv a c s) {v : Int × Int} (hv : inC a c v) : inv a c (lstep s v) := by
  obtain ⟨⟨g1, g2⟩, ⟨y1, y2⟩, hx⟩ := h
  obtain ⟨⟨v1, v2⟩, v3, v4⟩ := hv
  obtain ⟨e1, e2, e3, e4, e5⟩ := eu_out v.2.natAbs s.2 v y1 v3 (Nat.le_refl _)
  have hyc := Int.le_of_dvd (by omega) y2
  have es := eu_same (n := v.2.natAbs) (h := s.2) (v := v) y1 v3 (Nat.le_refl _)
  have tp := tm_pos c s.2.2
  unfold lstep
  generalize eu v.2.natAbs s.2 v = r at *
  have tp' := tm_pos c r.1.2
  have hvx : (v.1.natAbs : Int) ≤ (a - 1) * tm c r.1.2 := by
    have := Int.mul_le_mul_of_nonneg_left tp' (show 0 ≤ a - 1 by omega)
    omega
  refine ⟨gcd_facts g1 g2, ⟨e2, Int.dvd_trans e3 y2⟩, ?_⟩
  simp only
  by_cases he : r.1.2 = s.2.2
  · rcases es (by rw [← he]; exact e4) with h | h
    · rw [h]; exact hx
    · rw [h] at hvx ⊢; exact hvx
  · have h2 : 2 * r.1.2 ≤ s.2.2 := by
      obtain ⟨m, hm⟩ := e3
      have hm2 : 2 ≤ m := by
        rcases Int.lt_or_le m 2 with h | h
        · exfalso
          rcases Int.lt_or_le m 1 with h' | h'
          · have := Int.mul_le_mul_of_nonneg_left (show m ≤ 0 by omega) (show 0 ≤ r.1.2 by omega)
            omega
          · have : m = 1 := by omega
            rw [this, Int.mul_one] at hm
            exact he hm.symm
        · exact h
      have := Int.mul_le_mul_of_nonneg_left hm2 (show 0 ≤ r.1.2 by omega)
      omega
    rcases e5 with h | h | h
    · exact absurd (by rw [h]) he
    · rw [h] at hvx ⊢; exact hvx
    · refine tm_next (y := s.2.2) e2 h2 hyc hc.2 (by omega) hx ?_
      unfold pot at h
      have q1 : s.2.1.natAbs * v.2.natAbs ≤ s.2.1.natAbs * c.toNat := Nat.mul_le_mul_left _ (by omega)
      have q2 : v.1.natAbs * s.2.2.natAbs ≤ (a - 1).toNat * c.toNat := Nat.mul_le_mul (by omega) (by omega)
      have q3 : r.1.1.natAbs * (2 * r.1.2.natAbs) ≤ (s.2.1.natAbs + (a - 1).toNat) * c.toNat := by rw [Nat.add_mul]; omega
      have q4 : ((r.1.1.natAbs * (2 * r.1.2.natAbs) : Nat) : Int) ≤ (((s.2.1.natAbs + (a - 1).toNat) * c.toNat : Nat) : Int) := Int.ofNat_le.2 q3
      rw [Int.natCast_mul, Int.natCast_mul, Int.natCast_mul, Int.natCast_add] at q4
      have w1 : ((r.1.2.natAbs : Nat) : Int) = r.1.2 := by omega
      have w2 : (((a - 1).toNat : Nat) : Int) = a - 1 := by omega
      have w3 : ((c.toNat : Nat) : Int) = c := by omega
      rw [w1, w2, w3] at q4
      exact q4
structure invS (a c : Int) (s : Int × Int × Int) : Prop where
  g : 0 < s.1 ∧ s.1 ∣ a
  y : 0 < s.2.2 ∧ s.2.2 ∣ c
  x : 0 ≤ s.2.1 ∧ s.2.1 < s.1
theorem invS_step {a c : Int} {s : Int × Int × Int} (h : invS a c s) {v : Int × Int} (hv : inC a c v) : invS a c (lstepS s v) := by
  obtain ⟨⟨g1, g2⟩, ⟨y1, y2⟩, hx⟩ := h
  obtain ⟨⟨v1, v2⟩, v3, v4⟩ := hv
  obtain ⟨e1, e2, e3, e4, e5⟩ := eu_out v.2.natAbs s.2 v y1 v3 (Nat.le_refl _)
  unfold lstepS
  generalize eu v.2.natAbs s.2 v = r at *
  have hg := gcd_facts (r := r.2.1) g1 g2
  refine ⟨hg, ⟨e2, Int.dvd_trans e3 y2⟩, ?_⟩
  simp only
  rw [if_pos hg.1]
  exact ⟨Int.emod_nonneg _ (by omega), Int.emod_lt_of_pos _ hg.1⟩
theorem fold_inv {α β : Type} {st : α → β → α} {I : α → Prop} {p : β → Prop} (h : ∀ s v, I s → p v → I (st s v)) : ∀ (M : List β) (s : α), I s → (∀ v ∈ M, p v) → I (M.foldl st s)
  | [], s, hs, _ => hs
  | v :: M, s, hs, hp => fold_inv h M _ (h s v hs (hp v List.mem_cons_self)) (fun w hw => hp w (List.mem_cons_of_mem _ hw))
theorem full_lat {a b c : Int} (h : okL a b c = true) (M : List (Int × Int)) (hM : ∀ v ∈ M, inC a c v) : ∃ A B C, okL A B C = true ∧ (lsmall ((a, 0) :: (b, c) :: M) ∧ 0 < (lfold ((a, 0) :: (b, c) :: M)).1 ∧ lfin (lfold ((a, 0) :: (b, c) :: M)) = (A, B, C)) ∧
    lsmallS ((a, 0) :: (b, c) :: M) ∧ 0 < (lfoldS ((a, 0) :: (b, c) :: M)).1 ∧ lfin (lfoldS ((a, 0) :: (b, c) :: M)) = (A, B, C) := by
  obtain ⟨ha, hc, hb, hac⟩ := okL_spec.1 h
  obtain ⟨f1, f2⟩ := lf_basis (a := a) (b := b) (c := c) (by omega) (by omega)
  rw [Int.emod_eq_of_lt hb.1 hb.2] at f2
  have g1 : ∀ N : List (Int × Int), lfold ((a, 0) :: (b, c) :: N) = N.foldl lstep (a, b, c) := fun N => by
    rw [← f1]; rfl
  have g2 : ∀ N : List (Int × Int), lfoldS ((a, 0) :: (b, c) :: N) = N.foldl lstepS (a, b, c) := fun N => by
    rw [← f2]; rfl
  have i0 : inv a c (a, b, c) := ⟨⟨by simp only; omega, Int.dvd_refl _⟩, ⟨by simp only; omega, Int.dvd_refl _⟩, by
    have := Int.mul_le_mul_of_nonneg_left (tm_pos c c) (show 0 ≤ a - 1 by omega)
    simp only
    omega⟩
  have j0 : invS a c (a, b, c) := ⟨⟨by simp only; omega, Int.dvd_refl _⟩, ⟨by simp only; omega, Int.dvd_refl _⟩, hb⟩
  have i1 : ∀ N : List (Int × Int), (∀ v ∈ N, inC a c v) → inv a c (lfold ((a, 0) :: (b, c) :: N)) := fun N hN => by
    rw [g1]; exact fold_inv (I := inv a c) (st := lstep) (p := inC a c) (fun s v hs hv => inv_step ha hc hs hv) N _ i0 hN
  have j1 : ∀ N : List (Int × Int), (∀ v ∈ N, inC a c v) → invS a c (lfoldS ((a, 0) :: (b, c) :: N)) := fun N hN => by
    rw [g2]; exact fold_inv (I := invS a c) (st := lstepS) (p := inC a c) (fun s v hs hv => invS_step hs hv) N _ j0 hN
  have tk : ∀ k, ∀ v ∈ M.take k, inC a c v := fun k v hv => hM v (List.mem_of_mem_take hv)
  have sm : ∀ v ∈ (a, 0) :: (b, c) :: M, smallV 1000000 v := by
    intro v hv
    rcases List.mem_cons.1 hv with rfl | hv
    · exact ⟨by simp only; omega, by simp⟩
    · rcases List.mem_cons.1 hv with rfl | hv
      · exact ⟨by simp only; omega, by simp only; omega⟩
      · obtain ⟨q1, q2⟩ := hM v hv
        exact ⟨by omega, by omega⟩
  obtain ⟨l1, l2⟩ := lf_one (a := a) (by omega)
  have ls : lsmall ((a, 0) :: (b, c) :: M) := by
    refine ⟨sm, fun k => ?_⟩
    match k with
    | 0 => simp [lfold, smallV]
    | 1 => simp only [List.take_succ_cons, List.take_zero, lfold, List.foldl_cons, List.foldl_nil, l1, smallV]; omega
    | k + 2 =>
      simp only [List.take_succ_cons]
      obtain ⟨⟨p1, p2⟩, ⟨p3, p4⟩, p5⟩ := i1 (M.take k) (tk k)
      have q1 := Int.le_of_dvd (by omega) p2
      have q2 := Int.le_of_dvd (by omega) p4
      have q3 := tm_small ha hc hac p3
      exact ⟨⟨by omega, by omega⟩, by omega⟩
  have lsS : lsmallS ((a, 0) :: (b, c) :: M) := by
    refine ⟨sm, fun k => ?_⟩
    match k with
    | 0 => simp [lfoldS, smallV]
    | 1 => simp only [List.take_succ_cons, List.take_zero, lfoldS, List.foldl_cons, List.foldl_nil, l2, smallV]; omega
    | k + 2 =>
      simp only [List.take_succ_cons]
      obtain ⟨⟨p1, p2⟩, ⟨p3, p4⟩, p5⟩ := j1 (M.take k) (tk k)
      have q1 := Int.le_of_dvd (by omega) p2
      have q2 := Int.le_of_dvd (by omega) p4
      exact ⟨⟨by omega, by omega⟩, by omega⟩
  have iM := i1 M hM
  have jM := j1 M hM
  generalize hL : (a, 0) :: (b, c) :: M = L at *
  -- one lattice, one form
  have form : ∀ s : Int × Int × Int, 0 < s.1 → 0 < s.2.2 → (lfin s).1 = s.1 ∧ (0 ≤ (lfin s).2.1 ∧ (lfin s).2.1 < s.1) ∧ (lfin s).2.2 = s.2.2 := fun s h1 h2 => by
    refine ⟨rfl, ⟨Int.emod_nonneg _ (by omega), Int.emod_lt_of_pos _ h1⟩, ?_⟩
    simp only [lfin]
    rw [if_neg (by omega)]
  obtain ⟨p1, p2, p3⟩ := form _ iM.g.1 iM.y.1
  obtain ⟨r1, r2, r3⟩ := form _ jM.g.1 jM.y.1
  have sub1 : ∀ {Λ : Int → Int → Prop}, Sub Λ → ((Λ (lfin (lfold L)).1 0 ∧ Λ (lfin (lfold L)).2.1 (lfin (lfold L)).2.2) ↔ ∀ v ∈ L, Λ v.1 v.2) := fun s => (sub_lfin s _).trans (sub_lfold s L)
  have sub2 : ∀ {Λ : Int → Int → Prop}, Sub Λ → ((Λ (lfin (lfoldS L)).1 0 ∧ Λ (lfin (lfoldS L)).2.1 (lfin (lfoldS L)).2.2) ↔ ∀ v ∈ L, Λ v.1 v.2) := fun s => (sub_lfin s _).trans (sub_lfoldS s L)
  have gi := iM.g
  have yi := iM.y
  have gj := jM.g
  have yj := jM.y
  rw [← p1] at gi p2
  rw [← p3] at yi
  rw [← r1] at gj r2
  rw [← r3] at yj
  generalize lfin (lfold L) = R at *
  generalize lfin (lfoldS L) = T at *
  obtain ⟨A, B, C⟩ := R
  obtain ⟨A', B', C'⟩ := T
  simp only at *
  have m1 := (sub2 (spn_sub A B C)).2 ((sub1 (spn_sub A B C)).1 ⟨spn_l _ _ _, spn_r _ _ _⟩)
  have m2 := (sub1 (spn_sub A' B' C')).2 ((sub2 (spn_sub A' B' C')).1 ⟨spn_l _ _ _, spn_r _ _ _⟩)
  have e := spn_uniq gi.1 p2 yi.1 gj.1 r2 yj.1 m2.1 m2.2 m1.1 m1.2
  have q1 := Int.le_of_dvd (by omega) gi.2
  have q2 := Int.le_of_dvd (by omega) yi.2
  have q3 : A * C ≤ a * c := Int.mul_le_mul q1 q2 (by omega) (by omega)
  exact ⟨A, B, C, okL_spec.2 ⟨⟨by omega, by omega⟩, ⟨by omega, by omega⟩, p2, by omega⟩, ⟨ls, iM.g.1, rfl⟩, lsS, jM.g.1, e.symm⟩
end Go.Proofs.YtigebbijogidlaaGreatDoorFv
namespace Go.Proofs.YtigebbijogidlaaGreatDoorFv
open Go Go.Proofs
set_option maxRecDepth 10000
set_option maxHeartbeats 1000000
def imG (g : G6) (v : Int × Int) : Int × Int := (g.1.1 * v.1 + g.1.2.1 * v.2 + g.2.1, g.1.2.2.1 * v.1 + g.1.2.2.2 * v.2 + g.2.2)
def kp1 (a b c : Int) (l : List Int) (g : G6) (v : Int × Int) : Bool := decide (l.getD (num a b c (imG g v).1 (imG g v).2).toNat 0 = l.getD (num a b c v.1 v.2).toNat 0)
def kpB (a b c : Int) (l : List Int) (g : G6) : Bool := (cl a c).all (kp1 a b c l g)
theorem all_hit {α : Type} {l : List α} {p : α → Bool} {i : Nat} {z : α} (hz : l[i]? = some z) (hp : p z = false) : l.all p = false := by
  rw [List.all_eq_false]
  exact ⟨z, List.mem_of_getElem? hz, by rw [hp]; simp⟩
theorem all_done {α : Type} {l : List α} {p : α → Bool} {i : Nat} (hi : l.length ≤ i) (hn : ∀ x ∈ l.take i, p x = true) : l.all p = true := by
  rw [List.take_of_length_le hi] at hn
  exact List.all_eq_true.2 hn
theorem all_next {α : Type} {l : List α} {p : α → Bool} {i : Nat} {z : α} (hz : l[i]? = some z) (hn : ∀ x ∈ l.take i, p x = true) (hp : p z = true) : ∀ x ∈ l.take (i + 1), p x = true := by
  intro x hx
  rcases mem_take_succ hz hx with h | h
  · exact hn _ h
  · rw [h]; exact hp
theorem im_bd {g : G6} (hg : smallG g) {x y : Int} (hx : 0 ≤ x ∧ x < 64) (hy : 0 ≤ y ∧ y < 64) : (imG g (x, y)).1.natAbs ≤ 1000000 ∧ (imG g (x, y)).2.natAbs ≤ 1000000 := by
  obtain ⟨g1, g2, g3⟩ := hg
  have h1 := mul_bd g1.1 (show x.natAbs ≤ 64 by omega)
  have h2 := mul_bd g1.2 (show y.natAbs ≤ 64 by omega)
  have h3 := mul_bd g2.1 (show x.natAbs ≤ 64 by omega)
  have h4 := mul_bd g2.2 (show y.natAbs ≤ 64 by omega)
  simp only [imG]
  omega
theorem s_keeps (f a b c : Int) (l : List Int) (g : G6) (hf : okP f a b c l = true) (hg : smallG g) : Sp Tryz.prog 203 [aP f a b c l, aG6 g] (vb (kpB a b c l g)) [] := by
  obtain ⟨_, h2, h3, _⟩ := okP_spec.1 hf
  obtain ⟨ha, hc, hb, hac⟩ := okL_spec.1 h2
  have h1 := ac_pos ha.1 hc.1
  have hn := nat_n ha.1 hc.1 h3
  refine sp_of (m := no) mixed Tryz.func203 k203 ?_
  simp -dsimp [q]
  refine call_of (s_cells a b c ha hc) rfl (by simp) ?_
  try simp -dsimp
  try (first | exact fp_one (by decide) | refine fp_and (by decide) ?_)
  refine awp_it (false :: false :: true :: true :: false :: false :: false :: false :: false :: true :: true :: true :: []) (fun i : Nat => [(11, vi i)]) (fun i => []) (fun i => i ≤ l.length ∧ ∀ t ∈ (cl a c).take i, kp1 a b c l g t = true) (fun i => l.length - i) 0 ?_
  intro s0 e
  simp -dsimp at e
  subst e
  refine ⟨?_, ?_⟩
  · simp
  rintro i ⟨hi, hno⟩
  simp -dsimp [cellsL_len, hn, -Prod.forall]
  refine ⟨fun h5 => ⟨by omega, fun v hv => ?_⟩, fun h5 => ?_⟩
  · obtain ⟨x, y⟩ := v
    obtain ⟨⟨k1, k2⟩, _, k3⟩ := cell_of ha.1 hc.1 hv
    have k4 := (num_ix (b := b) (show inC a c (x, y) from ⟨k1, k2⟩)).1
    have k5 := im_bd hg (x := x) (y := y) (by omega) (by omega)
    have w1 : Sp Tryz.prog 171 [aG6 g, aV x y] (aV (imG g (x, y)).1 (imG g (x, y)).2) [] := s_gapply _ _ _ _ _ _ x y ⟨hg.1, hg.2.1⟩ ⟨by omega, by omega⟩ (by have := hg.2.2; omega)
    have w2 := s_at f a b c (imG g (x, y)).1 (imG g (x, y)).2 l hf (by omega) (by omega)
    have hz : (l.getD i 0) = l.getD (num a b c (x, y).1 (x, y).2).toNat 0 := by rw [k4, k3]; simp
    refine call_of (w1) rfl (by simp) ?_
    try simp -dsimp
    try (first | exact fp_one (by decide) | refine fp_and (by decide) ?_)
    refine call_of (w2) rfl (by simp) ?_
    try simp -dsimp
    try (first | exact fp_one (by decide) | refine fp_and (by decide) ?_)
    refine ⟨h5, fun z hz' => ⟨fun e => ?_, fun e => ⟨i + 1, by rw [w64 (by omega) (by omega)]; simp, ⟨by omega, fun x' y' ht => ?_⟩, by omega⟩⟩⟩
    · exact all_hit hv (decide_eq_false (by rw [← hz, List.getD_eq_getElem?_getD, List.getD_eq_getElem?_getD, hz']; exact e))
    · exact all_next hv hno (decide_eq_true (by rw [← hz, List.getD_eq_getElem?_getD, List.getD_eq_getElem?_getD, hz']; exact e)) _ ht
  · rw [kpB, all_done (by rw [cellsL_len, hn]; exact h5) hno]
theorem s_skeepsP (f a b c : Int) (l : List Int) (g : G6) (hf : okP f a b c l = true) (hg : smallG g) : Sp Tryz.prog 202 [aP f a b c l, aG6 g] (vb (kpB a b c l g)) [] := by
  obtain ⟨_, h2, h3, _⟩ := okP_spec.1 hf
  obtain ⟨ha, hc, hb, hac⟩ := okL_spec.1 h2
  have h1 := ac_pos ha.1 hc.1
  have hn := nat_n ha.1 hc.1 h3
  refine sp_of (m := no) mixed Tryz.func202 k202 ?_
  simp -dsimp [q]
  refine call_of (s_scells a b c ha hc) rfl (by simp) ?_
  try simp -dsimp
  try (first | exact fp_one (by decide) | refine fp_and (by decide) ?_)
  refine awp_it (false :: false :: true :: true :: false :: true :: true :: []) (fun i : Nat => [(6, vi i)]) (fun i => []) (fun i => i ≤ l.length ∧ ∀ t ∈ (cl a c).take i, kp1 a b c l g t = true) (fun i => l.length - i) 0 ?_
  intro s0 e
  simp -dsimp at e
  subst e
  refine ⟨?_, ?_⟩
  · simp
  rintro i ⟨hi, hno⟩
  simp -dsimp [cellsL_len, hn, -Prod.forall]
  refine ⟨fun h5 => ⟨by omega, fun v hv => ?_⟩, fun h5 => ?_⟩
  · obtain ⟨x, y⟩ := v
    obtain ⟨⟨k1, k2⟩, _, k3⟩ := cell_of ha.1 hc.1 hv
    have k5 := im_bd hg (x := x) (y := y) (by omega) (by omega)
    have w1 : Sp Tryz.prog 154 [aG6 g, aV x y] (aV (imG g (x, y)).1 (imG g (x, y)).2) [] := s_sgapply _ _ _ _ _ _ x y ⟨hg.1, hg.2.1⟩ ⟨by omega, by omega⟩ (by have := hg.2.2; omega)
    have w2 := s_sat f a b c (imG g (x, y)).1 (imG g (x, y)).2 l hf (by omega) (by omega)
    have w3 := s_sat f a b c x y l hf (by omega) (by omega)
    refine call_of (w1) rfl (by simp) ?_
    try simp -dsimp
    try (first | exact fp_one (by decide) | refine fp_and (by decide) ?_)
    refine call_of (w2) rfl (by simp) ?_
    try simp -dsimp
    try (first | exact fp_one (by decide) | refine fp_and (by decide) ?_)
    refine ⟨by rw [cellsL_len, hn]; exact h5, fun x' y' hv' => ?_⟩
    rw [hv] at hv'
    cases hv'
    refine call_of (w3) rfl (by simp) ?_
    try simp -dsimp
    try (first | exact fp_one (by decide) | refine fp_and (by decide) ?_)
    refine ⟨fun e => ?_, fun e => ⟨i + 1, by rw [w64 (by omega) (by omega)]; simp, ⟨by omega, fun x' y' ht => ?_⟩, by omega⟩⟩
    · exact all_hit hv (decide_eq_false (by rw [List.getD_eq_getElem?_getD, List.getD_eq_getElem?_getD]; exact e))
    · exact all_next hv hno (decide_eq_true (by rw [List.getD_eq_getElem?_getD, List.getD_eq_getElem?_getD]; exact e)) _ ht
  · rw [kpB, all_done (by rw [cellsL_len, hn]; exact h5) hno]
theorem small_tr {a c x y : Int} (ha : 1 ≤ a ∧ a ≤ 64) (hc : 1 ≤ c ∧ c ≤ 64) (h : (0 ≤ x ∧ x < a) ∧ 0 ≤ y ∧ y < c) : smallG ((1, 0, 0, 1), x, y) := by
  unfold smallG
  simp only
  omega
abbrev kpV (a b c : Int) (l : List Int) (v : Int × Int) : Bool := kpB a b c l ((1, 0, 0, 1), v)
def fuL (a b c : Int) (l : List Int) (n : Nat) : List (Int × Int) := (a, 0) :: (b, c) :: ((cl a c).take n).filter (kpV a b c l)
theorem fuL_zero (a b c : Int) (l : List Int) : fuL a b c l 0 = [(a, 0), (b, c)] := rfl
theorem fuL_succ {a b c : Int} {l : List Int} {n : Nat} {v : Int × Int} (h : (cl a c)[n]? = some v) : fuL a b c l (n + 1) = if kpV a b c l v = true then fuL a b c l n ++ [v] else fuL a b c l n := by
  unfold fuL
  rw [List.take_add_one, h, List.filter_append]
  cases hm : kpV a b c l v <;> simp [hm]
theorem fuL_len (a b c : Int) (l : List Int) (n : Nat) : (fuL a b c l n).length ≤ n + 2 := by
  have := List.length_filter_le (kpV a b c l) ((cl a c).take n)
  rw [List.length_take] at this
  simp only [fuL, List.length_cons]
  omega
theorem fuL_lat {a b c : Int} (h : okL a b c = true) (l : List Int) (n : Nat) : ∃ A B C, okL A B C = true ∧ (lsmall (fuL a b c l n) ∧ 0 < (lfold (fuL a b c l n)).1 ∧ lfin (lfold (fuL a b c l n)) = (A, B, C)) ∧ lsmallS (fuL a b c l n) ∧ 0 < (lfoldS (fuL a b c l n)).1 ∧ lfin (lfoldS (fuL a b c l n)) = (A, B, C) := by
  obtain ⟨ha, hc, hb, hac⟩ := okL_spec.1 h
  refine full_lat h _ (fun v hv => ?_)
  have h1 := List.mem_of_mem_take (List.mem_filter.1 hv).1
  obtain ⟨i, hi⟩ := List.mem_iff_getElem?.1 h1
  exact (cl_at ha.1 hc.1 hi).1
theorem s_full (f a b c : Int) (l : List Int) (hf : okP f a b c l = true) {A' B' C' : Int} (hs : lsmall (fuL a b c l l.length)) (h0 : 0 < (lfold (fuL a b c l l.length)).1) (he : lfin (lfold (fuL a b c l l.length)) = (A', B', C')) : Sp Tryz.prog 141 [aP f a b c l] (aL A' B' C') [] := by
  obtain ⟨_, h2, h3, _⟩ := okP_spec.1 hf
  obtain ⟨ha, hc, hb, hac⟩ := okL_spec.1 h2
  have h1 := ac_pos ha.1 hc.1
  have hn := nat_n ha.1 hc.1 h3
  have w9 := s_latticeOf _ (by have := fuL_len a b c l l.length; omega) hs h0
  rw [he] at w9
  refine sp_of (m := no) mixed Tryz.func141 k141 ?_
  simp -dsimp [q]
  refine call_of (s_basis a b c) rfl (by simp) ?_
  try simp -dsimp
  try (first | exact fp_one (by decide) | refine fp_and (by decide) ?_)
  refine call_of (s_cells a b c ha hc) rfl (by simp) ?_
  try simp -dsimp
  try (first | exact fp_one (by decide) | refine fp_and (by decide) ?_)
  refine awp_it (false :: true :: true :: false :: false :: true :: false :: false :: false :: false :: false :: false :: false :: false :: false :: false :: false :: false :: false :: true :: true :: true :: []) (fun i : Nat => [(21, vi i)]) (fun i => [(2, .row 2 75 (vs (fuL a b c l i)))]) (fun i => i ≤ l.length) (fun i => l.length - i) 0 ?_
  intro s0 e
  simp -dsimp at e
  subst e
  refine ⟨?_, ?_⟩
  · simp [fuL, vs, vv]
  intro i hi
  have hfl := fuL_len a b c l i
  simp -dsimp [cellsL_len, hn, -Prod.forall]
  refine ⟨fun h5 => ⟨by omega, fun v hv => ?_⟩, fun h5 => ?_⟩
  · obtain ⟨x, y⟩ := v
    obtain ⟨k1, _, _⟩ := cell_of ha.1 hc.1 hv
    have w1 := s_keeps f a b c l ((1, 0, 0, 1), x, y) hf (small_tr ha hc k1)
    have hsu := fuL_succ (b := b) (l := l) hv
    refine call_of (s_unit) rfl (by simp) ?_
    try simp -dsimp
    try (first | exact fp_one (by decide) | refine fp_and (by decide) ?_)
    refine call_of (w1) rfl (by simp) ?_
    try simp -dsimp
    try (first | exact fp_one (by decide) | refine fp_and (by decide) ?_)
    refine ⟨fun e => ?_, fun e => ?_⟩
    · refine ⟨⟨by omega, by omega⟩, i + 1, ⟨by rw [w64 (by omega) (by omega)]; simp, ?_⟩, by omega, by omega⟩
      rw [hsu, if_pos e]
    · refine ⟨i + 1, ⟨by rw [w64 (by omega) (by omega)]; simp, ?_⟩, by omega, by omega⟩
      rw [hsu, if_neg (by rw [kpV, e]; simp)]
  · obtain rfl : i = l.length := by omega
    refine call_of (w9) rfl (by simp) ?_
    try simp -dsimp
    try (first | exact fp_one (by decide) | refine fp_and (by decide) ?_)
theorem s_sfull (f a b c : Int) (l : List Int) (hf : okP f a b c l = true) {A' B' C' : Int} (hs : lsmallS (fuL a b c l l.length)) (h0 : 0 < (lfoldS (fuL a b c l l.length)).1) (he : lfin (lfoldS (fuL a b c l l.length)) = (A', B', C')) : Sp Tryz.prog 175 [aP f a b c l] (aL A' B' C') [] := by
  obtain ⟨_, h2, h3, _⟩ := okP_spec.1 hf
  obtain ⟨ha, hc, hb, hac⟩ := okL_spec.1 h2
  have h1 := ac_pos ha.1 hc.1
  have hn := nat_n ha.1 hc.1 h3
  have w9 := s_hermite _ (by have := fuL_len a b c l l.length; omega) hs h0
  rw [he] at w9
  refine sp_of (m := no) mixed Tryz.func175 k175 ?_
  simp -dsimp [q]
  refine call_of (s_scells a b c ha hc) rfl (by simp) ?_
  try simp -dsimp
  try (first | exact fp_one (by decide) | refine fp_and (by decide) ?_)
  refine call_of (s_sbasis' a b c) rfl (by simp) ?_
  try simp -dsimp
  try (first | exact fp_one (by decide) | refine fp_and (by decide) ?_)
  refine awp_it (false :: true :: true :: true :: true :: true :: []) (fun i : Nat => [(5, vi i)]) (fun i => [(3, .row 2 75 (vs (fuL a b c l i)))]) (fun i => i ≤ l.length) (fun i => l.length - i) 0 ?_
  intro s0 e
  simp -dsimp at e
  subst e
  refine ⟨?_, ?_⟩
  · simp [fuL, vs, vv]
  intro i hi
  have hfl := fuL_len a b c l i
  simp -dsimp [cellsL_len, hn, -Prod.forall]
  refine ⟨fun h5 => ?_, fun h5 => ?_⟩
  · refine call_of (s_sunit) rfl (by simp) ?_
    try simp -dsimp
    try (first | exact fp_one (by decide) | refine fp_and (by decide) ?_)
    refine ⟨by rw [cellsL_len, hn]; exact h5, fun x y hv => ?_⟩
    obtain ⟨k1, _, _⟩ := cell_of ha.1 hc.1 hv
    have w1 := s_skeepsP f a b c l ((1, 0, 0, 1), x, y) hf (small_tr ha hc k1)
    have hsu := fuL_succ (b := b) (l := l) hv
    refine call_of (w1) rfl (by simp) ?_
    try simp -dsimp
    try (first | exact fp_one (by decide) | refine fp_and (by decide) ?_)
    refine ⟨fun e => ?_, fun e => ?_⟩
    · refine ⟨by rw [cellsL_len, hn]; exact h5, fun x' y' hv' => ?_⟩
      rw [hv] at hv'
      cases hv'
      refine ⟨⟨by omega, by omega⟩, i + 1, ⟨by rw [w64 (by omega) (by omega)]; simp, ?_⟩, by omega, by omega⟩
      rw [hsu, if_pos e]
    · refine ⟨i + 1, ⟨by rw [w64 (by omega) (by omega)]; simp, ?_⟩, by omega, by omega⟩
      rw [hsu, if_neg (by rw [kpV, e]; simp)]
  · obtain rfl : i = l.length := by omega
    refine call_of (w9) rfl (by simp) ?_
    try simp -dsimp
    try (first | exact fp_one (by decide) | refine fp_and (by decide) ?_)
def lnL (a b c A C : Int) (l : List Int) (n : Nat) : List Int := ((cl A C).take n).map fun v => l.getD (num a b c v.1 v.2).toNat 0
theorem lnL_succ {a b c A C : Int} {l : List Int} {n : Nat} {v : Int × Int} (h : (cl A C)[n]? = some v) : lnL a b c A C l (n + 1) = lnL a b c A C l n ++ [l.getD (num a b c v.1 v.2).toNat 0] := by
  simp [lnL, List.take_add_one, h]
theorem lnL_len (a b c A C : Int) (l : List Int) (n : Nat) : (lnL a b c A C l n).length = min n (cl A C).length := by simp [lnL]
theorem nat_ac1 {a c : Int} (ha : 1 ≤ a) (hc : 1 ≤ c) : 0 < a.toNat * c.toNat := Nat.mul_pos (by omega) (by omega)
theorem s_spread (f a b c A' B' C' : Int) (l : List Int) (hf : okP f a b c l = true) (h : okL A' B' C' = true) {N : Nat} (hN : A'.toNat * C'.toNat = N) : Sp Tryz.prog 140 [aP f a b c l, aL A' B' C'] (aP f A' B' C' (lnL a b c A' C' l N)) [] := by
  obtain ⟨ha, hc, hb, hac⟩ := okL_spec.1 h
  have h1 := ac_pos ha.1 hc.1
  have hcl : (cl A' C').length = N := by rw [cellsL_len, hN]
  have hNb : (N : Int) = A' * C' := by rw [← hN, Int.natCast_mul, Int.toNat_of_nonneg (by omega), Int.toNat_of_nonneg (by omega)]
  refine sp_of (m := no) mixed Tryz.func140 k140 ?_
  simp -dsimp [q]
  refine call_of (s_cells A' B' C' ha hc) rfl (by simp) ?_
  try simp -dsimp
  try (first | exact fp_one (by decide) | refine fp_and (by decide) ?_)
  refine awp_it (false :: false :: true :: false :: true :: true :: false :: false :: false :: false :: false :: false :: false :: true :: true :: true :: []) (fun i : Nat => [(15, vi i)]) (fun i => match i with | 0 => [] | i + 1 => [(2, .box [vi f, vi A', vi B', vi C', .sli 4]), (4, .row 0 2 (is (lnL a b c A' C' l (i + 1))))]) (fun i => i ≤ N) (fun i => N - i) 0 ?_
  intro s0 e
  simp -dsimp at e
  subst e
  refine ⟨?_, ?_⟩
  · simp
  intro i hi
  cases i with
  | zero =>
    simp -dsimp [cellsL_len, hN]
    refine ⟨fun h5 => ⟨h5, fun x y hxy => ?_⟩, by rintro rfl; exact absurd hcl (by rw [cellsL_len]; intro e; have := nat_ac1 ha.1 hc.1; omega)⟩
    obtain ⟨⟨k1, k2⟩, _, _⟩ := cell_of ha.1 hc.1 hxy
    have ht := lnL_succ (a := a) (b := b) (c := c) (l := l) hxy
    refine call_of (s_at f a b c x y l hf (by omega) (by omega)) rfl (by simp) ?_
    try simp -dsimp
    try (first | exact fp_one (by decide) | refine fp_and (by decide) ?_)
    rw [show lnL a b c A' C' l 0 = [] from rfl, List.nil_append] at ht
    refine ⟨1, ⟨by rw [w64 (by omega) (by omega)]; simp, ?_⟩, by omega, by omega⟩
    simp [show lnL a b c A' C' l 1 = _ from ht]
  | succ i =>
    have hll := lnL_len a b c A' C' l (i + 1)
    simp -dsimp [cellsL_len, hN]
    refine ⟨fun h5 => ⟨⟨by omega, h5⟩, by omega, fun x y hxy => ?_⟩, fun h5 => ?_⟩
    · obtain ⟨⟨k1, k2⟩, _, _⟩ := cell_of ha.1 hc.1 hxy
      have ht := lnL_succ (a := a) (b := b) (c := c) (l := l) hxy
      refine call_of (s_at f a b c x y l hf (by omega) (by omega)) rfl (by simp) ?_
      try simp -dsimp
      try (first | exact fp_one (by decide) | refine fp_and (by decide) ?_)
      refine ⟨⟨by omega, by omega⟩, by decide, i + 2, ⟨by rw [w64 (by omega) (by omega)]; simp; omega, ?_⟩, by omega, by omega⟩
      simp [ht]
    · rw [show N = i + 1 by omega]
theorem s_son (f a b c A' B' C' : Int) (l : List Int) (hf : okP f a b c l = true) (h : okL A' B' C' = true) {N : Nat} (hN : A'.toNat * C'.toNat = N) : Sp Tryz.prog 174 [aP f a b c l, aL A' B' C'] (aP f A' B' C' (lnL a b c A' C' l N)) [] := by
  obtain ⟨ha, hc, hb, hac⟩ := okL_spec.1 h
  have h1 := ac_pos ha.1 hc.1
  have hcl : (cl A' C').length = N := by rw [cellsL_len, hN]
  have hNb : (N : Int) = A' * C' := by rw [← hN, Int.natCast_mul, Int.toNat_of_nonneg (by omega), Int.toNat_of_nonneg (by omega)]
  refine sp_of (m := no) mixed Tryz.func174 k174 ?_
  simp -dsimp [q]
  refine call_of (s_scells A' B' C' ha hc) rfl (by simp) ?_
  try simp -dsimp
  try (first | exact fp_one (by decide) | refine fp_and (by decide) ?_)
  refine awp_it (false :: false :: true :: false :: true :: true :: true :: true :: []) (fun i : Nat => [(7, vi i)]) (fun i => [(4, .row 0 2 (is (lnL a b c A' C' l i)))]) (fun i => i ≤ N) (fun i => N - i) 0 ?_
  intro s0 e
  simp -dsimp at e
  subst e
  refine ⟨?_, ?_⟩
  · simp [lnL]
  intro i hi
  have hll := lnL_len a b c A' C' l i
  simp -dsimp [cellsL_len, hN]
  refine ⟨fun h5 => ?_, fun h5 => ?_⟩
  · refine ⟨by omega, fun x y hxy => ?_⟩
    obtain ⟨⟨k1, k2⟩, _, _⟩ := cell_of ha.1 hc.1 hxy
    have ht := lnL_succ (a := a) (b := b) (c := c) (l := l) hxy
    refine call_of (s_sat f a b c x y l hf (by omega) (by omega)) rfl (by simp) ?_
    try simp -dsimp
    try (first | exact fp_one (by decide) | refine fp_and (by decide) ?_)
    refine ⟨⟨by omega, by omega⟩, by decide, i + 1, ⟨by rw [w64 (by omega) (by omega)]; simp, ?_⟩, by omega, by omega⟩
    rw [ht]
    simp
  · rw [show N = i by omega]
theorem lnL_ok {f a b c A' B' C' : Int} {l : List Int} (hf : okP f a b c l = true) (h : okL A' B' C' = true) {N : Nat} (hN : A'.toNat * C'.toNat = N) : okP f A' B' C' (lnL a b c A' C' l N) = true := by
  obtain ⟨h1, h2, h3, h4⟩ := okP_spec.1 hf
  obtain ⟨ha, hc, hb, hac⟩ := okL_spec.1 h
  refine okP_spec.2 ⟨h1, h, ?_, fun n hn => ?_⟩
  · rw [lnL_len, cellsL_len, hN, Nat.min_self, ← hN, Int.natCast_mul, Int.toNat_of_nonneg (by omega), Int.toNat_of_nonneg (by omega)]
  · obtain ⟨v, _, rfl⟩ := List.mem_map.1 hn
    rw [List.getD_eq_getElem?_getD]
    cases he : l[(num a b c v.1 v.2).toNat]? with
    | none => simp
    | some z => exact h4 _ (List.mem_of_getElem? he)
theorem lean_both {f a b c : Int} {l : List Int} (hf : okP f a b c l = true) : ∃ A B C L, okP f A B C L = true ∧ Sp Tryz.prog 89 [aP f a b c l] (aP f A B C L) [] ∧ Sp Tryz.prog 117 [aP f a b c l] (aP f A B C L) [] := by
  obtain ⟨h1, h2, h3, h4⟩ := okP_spec.1 hf
  obtain ⟨A, B, C, hL, ⟨p1, p2, p3⟩, q1, q2, q3⟩ := fuL_lat h2 l l.length
  refine ⟨A, B, C, _, lnL_ok hf hL rfl, ?_, ?_⟩
  · refine sp_of (m := no) mixed Tryz.func89 k89 ?_
    simp -dsimp [q]
    refine call_of (s_full f a b c l hf p1 p2 p3) rfl (by simp) ?_
    try simp -dsimp
    try (first | exact fp_one (by decide) | refine fp_and (by decide) ?_)
    refine call_of (s_spread f a b c A B C l hf hL rfl) rfl (by simp) ?_
    try simp -dsimp
    try (first | exact fp_one (by decide) | refine fp_and (by decide) ?_)
  · refine sp_of (m := no) mixed Tryz.func117 k117 ?_
    simp -dsimp [q]
    refine call_of (s_sfull f a b c l hf q1 q2 q3) rfl (by simp) ?_
    try simp -dsimp
    try (first | exact fp_one (by decide) | refine fp_and (by decide) ?_)
    refine call_of (s_son f a b c A B C l hf hL rfl) rfl (by simp) ?_
    try simp -dsimp
    try (first | exact fp_one (by decide) | refine fp_and (by decide) ?_)
end Go.Proofs.YtigebbijogidlaaGreatDoorFv
namespace Go.Proofs.YtigebbijogidlaaGreatDoorFv
open Go Go.Proofs
set_option maxRecDepth 10000
set_option maxHeartbeats 2000000
def ptM (m : M4) : Prop := oneM m ∧ (dtM m = 1 ∨ dtM m = -1)
theorem lat_both {a b c : Int} {m : M4} (h : okL a b c = true) (hm : ptM m) : ∃ A B C, Img a b c m A B C ∧ Sp Tryz.prog 166 [.v (vvs [(m.1 * a, m.2.2.1 * a), (m.1 * b + m.2.1 * c, m.2.2.1 * b + m.2.2.2 * c)])] (aL A B C) [] ∧ Sp Tryz.prog 152 [aM4 m, aL a b c] (aL A B C) [] := by
  obtain ⟨ha, hc, hb, hac⟩ := okL_spec.1 h
  obtain ⟨⟨⟨m1, m2⟩, m3, m4⟩, hd⟩ := hm
  have e1 : apM m (a, 0) = (m.1 * a, m.2.2.1 * a) := by simp [apM]
  have e2 : apM m (b, c) = (m.1 * b + m.2.1 * c, m.2.2.1 * b + m.2.2.2 * c) := rfl
  have h1 := mul_bd m1 (show a.natAbs ≤ 64 by omega)
  have h2 := mul_bd m3 (show a.natAbs ≤ 64 by omega)
  have h3 := mul_bd m1 (show b.natAbs ≤ 64 by omega)
  have h4 := mul_bd m2 (show c.natAbs ≤ 64 by omega)
  have h5 := mul_bd m3 (show b.natAbs ≤ 64 by omega)
  have h6 := mul_bd m4 (show c.natAbs ≤ 64 by omega)
  have hdet : m.1 * a * (m.2.2.1 * b + m.2.2.2 * c) - m.2.2.1 * a * (m.1 * b + m.2.1 * c) = a * c * dtM m := by unfold dtM; grind
  have hp : 0 < a * c := Int.mul_pos (by omega) (by omega)
  have hne : m.1 * a * (m.2.2.1 * b + m.2.2.2 * c) - m.2.2.1 * a * (m.1 * b + m.2.1 * c) ≠ 0 := by
    rw [hdet]
    rcases hd with e | e <;> rw [e] <;> omega
  have hbd : (m.1 * a * (m.2.2.1 * b + m.2.2.2 * c) - m.2.2.1 * a * (m.1 * b + m.2.1 * c)).natAbs ≤ 1000000 := by
    rw [hdet]
    rcases hd with e | e <;> rw [e] <;> omega
  have t := two (x := m.1 * a) (y := m.2.2.1 * a) (u := m.1 * b + m.2.1 * c) (w := m.2.2.1 * b + m.2.2.2 * c) (by omega) (by omega) (by omega) (by omega) hne hbd
  have t' := twoI (x := m.1 * a) (y := m.2.2.1 * a) (u := m.1 * b + m.2.1 * c) (w := m.2.2.1 * b + m.2.2.2 * c) (by omega) (by omega) (by omega) (by omega) hne
  have w := s_hermite [(m.1 * a, m.2.2.1 * a), (m.1 * b + m.2.1 * c, m.2.2.1 * b + m.2.2.2 * c)] (by simp) t.s t.h
  have w' := s_latticeOf [(m.1 * a, m.2.2.1 * a), (m.1 * b + m.2.1 * c, m.2.2.1 * b + m.2.2.2 * c)] (by simp) t'.s t'.h
  have i1 := img_of (m := m) h hd t.h t.k (fun L s => by rw [e1, e2]; simpa using sub_lfoldS s [(m.1 * a, m.2.2.1 * a), (m.1 * b + m.2.1 * c, m.2.2.1 * b + m.2.2.2 * c)])
  have i2 := img_of (m := m) h hd t'.h t'.k (fun L s => by rw [e1, e2]; simpa using sub_lfold s [(m.1 * a, m.2.2.1 * a), (m.1 * b + m.2.1 * c, m.2.2.1 * b + m.2.2.2 * c)])
  have eq := img_uniq i2 i1
  generalize lfin (lfoldS [(m.1 * a, m.2.2.1 * a), (m.1 * b + m.2.1 * c, m.2.2.1 * b + m.2.2.2 * c)]) = R at *
  generalize lfin (lfold [(m.1 * a, m.2.2.1 * a), (m.1 * b + m.2.1 * c, m.2.2.1 * b + m.2.2.2 * c)]) = R' at *
  obtain ⟨A, B, C⟩ := R
  obtain ⟨A', B', C'⟩ := R'
  simp only at *
  cases eq
  refine ⟨A, B, C, i1, w', ?_⟩
  obtain ⟨p, q', r, s⟩ := m
  simp only at *
  refine sp_of (m := no) mixed Tryz.func152 k152 ?_
  simp -dsimp [q]
  refine call_of ((s_sbasis a b c : Sp Tryz.prog 225 [aL a b c] (.v (.sl 2 [.ag [.int .i64 a, .int .i64 0], .ag [.int .i64 b, .int .i64 c]])) [])) rfl (by simp) ?_
  try simp -dsimp
  try (first | exact fp_one (by decide) | refine fp_and (by decide) ?_)
  refine call_of (s_sapply p q' r s a 0 ⟨⟨by omega, by omega⟩, by omega, by omega⟩ ⟨by omega, by omega⟩) rfl (by simp) ?_
  try simp -dsimp
  try (first | exact fp_one (by decide) | refine fp_and (by decide) ?_)
  refine call_of (s_sapply p q' r s b c ⟨⟨by omega, by omega⟩, by omega, by omega⟩ ⟨by omega, by omega⟩) rfl (by simp) ?_
  try simp -dsimp
  try (first | exact fp_one (by decide) | refine fp_and (by decide) ?_)
  refine call_of (w) rfl (by simp) ?_
  try simp -dsimp
  try (first | exact fp_one (by decide) | refine fp_and (by decide) ?_)
/-! the motion back -/
theorem s_minv (m : M4) (hm : ptM m) : Sp Tryz.prog 235 [aM4 m] (aM (dtM m * m.2.2.2) (-dtM m * m.2.1) (-dtM m * m.2.2.1) (dtM m * m.1)) [] := by
  obtain ⟨⟨⟨m1, m2⟩, m3, m4⟩, hd⟩ := hm
  obtain ⟨p, q', r, s⟩ := m
  simp only at *
  have w := s_det p q' r s ⟨⟨by omega, by omega⟩, by omega, by omega⟩
  rw [show p * s - q' * r = dtM (p, q', r, s) from rfl] at w
  generalize dtM (p, q', r, s) = d at *
  refine sp_of (m := no) mixed Tryz.func235 k235 ?_
  simp -dsimp [q]
  refine call_of (w) rfl (by simp) ?_
  try simp -dsimp
  try (first | exact fp_one (by decide) | refine fp_and (by decide) ?_)
  rcases hd with rfl | rfl
  · rw [show IntKind.i64.wrap (-1) = -1 by decide]
    refine ⟨w64 (by omega) (by omega), w64 (by omega) (by omega), w64 (by omega) (by omega), w64 (by omega) (by omega)⟩
  · rw [show IntKind.i64.wrap (- -1) = 1 by decide, show - -(1 : Int) = 1 by decide]
    refine ⟨w64 (by omega) (by omega), w64 (by omega) (by omega), w64 (by omega) (by omega), w64 (by omega) (by omega)⟩
theorem iM_bd {m : M4} (hm : ptM m) {x y : Int} {B : Nat} (hx : x.natAbs ≤ B) (hy : y.natAbs ≤ B) : (iM m (x, y)).1.natAbs ≤ 2 * B ∧ (iM m (x, y)).2.natAbs ≤ 2 * B := by
  obtain ⟨⟨⟨m1, m2⟩, m3, m4⟩, hd⟩ := hm
  obtain ⟨p, q', r, s⟩ := m
  simp only [iM] at *
  generalize dtM (p, q', r, s) = d at *
  have b1 := mul_bd m4 hx
  have b2 := mul_bd m2 hy
  have b3 := mul_bd m3 hx
  have b4 := mul_bd m1 hy
  rcases hd with rfl | rfl
  · simp only [Int.one_mul, Int.neg_mul]; omega
  · simp only [Int.one_mul, Int.neg_mul, Int.neg_neg]; omega
theorem s_ginv (m : M4) (t u : Int) (hm : ptM m) (ht : t.natAbs ≤ 1000) (hu : u.natAbs ≤ 1000) : Sp Tryz.prog 168 [aG m.1 m.2.1 m.2.2.1 m.2.2.2 t u] (aG (dtM m * m.2.2.2) (-dtM m * m.2.1) (-dtM m * m.2.2.1) (dtM m * m.1) (-(iM m (t, u)).1) (-(iM m (t, u)).2)) [] := by
  have hb := iM_bd hm ht hu
  have w := s_minv m hm
  obtain ⟨⟨⟨m1, m2⟩, m3, m4⟩, hd⟩ := hm
  obtain ⟨p, q', r, s⟩ := m
  simp only [iM] at *
  generalize dtM (p, q', r, s) = d at *
  have e1 : (d * s).natAbs ≤ 1 ∧ (-d * q').natAbs ≤ 1 ∧ (-d * r).natAbs ≤ 1 ∧ (d * p).natAbs ≤ 1 := by
    rcases hd with rfl | rfl <;> omega
  refine sp_of (m := no) mixed Tryz.func168 k168 ?_
  simp -dsimp [q]
  refine call_of (w) rfl (by simp) ?_
  try simp -dsimp
  try (first | exact fp_one (by decide) | refine fp_and (by decide) ?_)
  refine call_of (s_apply (d * s) (-d * q') (-d * r) (d * p) t u ⟨⟨by omega, by omega⟩, by omega, by omega⟩ ⟨by omega, by omega⟩) rfl (by simp) ?_
  try simp -dsimp
  try (first | exact fp_one (by decide) | refine fp_and (by decide) ?_)
  refine call_of (s_times _ _ _ (by omega) (by omega) (by decide)) rfl (by simp) ?_
  try simp -dsimp
  try (first | exact fp_one (by decide) | refine fp_and (by decide) ?_)
/-! moved patterns -/
def mvP (a b c A C : Int) (m : M4) (l : List Int) (t : Int × Int) (k : Nat) : List Int := ((cl A C).take k).map fun v => atV a b c l (iM m (v.1 - t.1, v.2 - t.2))
theorem mvP_succ {a b c A C : Int} {m : M4} {l : List Int} {t v : Int × Int} {n : Nat} (h : (cl A C)[n]? = some v) : mvP a b c A C m l t (n + 1) = mvP a b c A C m l t n ++ [atV a b c l (iM m (v.1 - t.1, v.2 - t.2))] := by
  simp only [mvP, List.take_add_one, h, List.map_append]
  rfl
theorem mvP_len (a b c A C : Int) (m : M4) (l : List Int) (t : Int × Int) (n : Nat) : (mvP a b c A C m l t n).length = min n (cl A C).length := by simp [mvP]
theorem img_len {a b c A B C : Int} {m : M4} (I : Img a b c m A B C) {l : List Int} (hl : (l.length : Int) = a * c) : A.toNat * C.toNat = l.length := by
  obtain ⟨hA, hC, _, _⟩ := okL_spec.1 I.ok
  exact nat_n (by omega) (by omega) (by rw [hl, I.n])
theorem s_pmove (f a b c : Int) (l : List Int) (m : M4) (t u : Int) (hf : okP f a b c l = true) (hm : ptM m) (ht : t.natAbs ≤ 1000) (hu : u.natAbs ≤ 1000) {A B C : Int} (I : Img a b c m A B C) (wl : Sp Tryz.prog 166 [.v (vvs [(m.1 * a, m.2.2.1 * a), (m.1 * b + m.2.1 * c, m.2.2.1 * b + m.2.2.2 * c)])] (aL A B C) []) : Sp Tryz.prog 109 [aP f a b c l, aG m.1 m.2.1 m.2.2.1 m.2.2.2 t u] (aP f A B C (mvP a b c A C m l (t, u) l.length)) [] := by
  obtain ⟨_, h2, h3, _⟩ := okP_spec.1 hf
  obtain ⟨ha, hc, hb, hac⟩ := okL_spec.1 h2
  obtain ⟨hA, hC, hB, hAC⟩ := okL_spec.1 I.ok
  have h1 := ac_pos ha.1 hc.1
  have hn := img_len I h3
  have wi := s_ginv m t u hm ht hu
  have hib := iM_bd hm ht hu
  obtain ⟨⟨⟨m1, m2⟩, m3, m4⟩, hd⟩ := hm
  obtain ⟨p, q', r, s⟩ := m
  simp only [iM] at wi hib
  have gen : ∀ x y : Int, atV a b c l (iM (p, q', r, s) (x - t, y - u)) = l.getD (num a b c (dtM (p, q', r, s) * s * x + -dtM (p, q', r, s) * q' * y + -(dtM (p, q', r, s) * s * t + -dtM (p, q', r, s) * q' * u)) (-dtM (p, q', r, s) * r * x + dtM (p, q', r, s) * p * y + -(-dtM (p, q', r, s) * r * t + dtM (p, q', r, s) * p * u))).toNat 0 := fun x y => by
    unfold atV iM
    simp only
    congr 3 <;> grind
  have stp : ∀ (i : Nat) v, (cl A C)[i]? = some v → _ := fun i v h => mvP_succ (a := a) (b := b) (c := c) (m := (p, q', r, s)) (l := l) (t := (t, u)) h
  simp only at *
  generalize dtM (p, q', r, s) = d at *
  have e1 : (d * s).natAbs ≤ 1 ∧ (-d * q').natAbs ≤ 1 ∧ (-d * r).natAbs ≤ 1 ∧ (d * p).natAbs ≤ 1 := by
    rcases hd with rfl | rfl <;> omega
  obtain ⟨e1, e2, e3, e4⟩ := e1
  generalize d * s = S at *
  generalize -d * q' = Q at *
  generalize -d * r = R at *
  generalize d * p = P at *
  refine sp_of (m := no) mixed Tryz.func109 k109 ?_
  simp -dsimp [q]
  refine call_of (s_basis a b c) rfl (by simp) ?_
  try simp -dsimp
  try (first | exact fp_one (by decide) | refine fp_and (by decide) ?_)
  refine call_of (s_apply p q' r s a 0 ⟨⟨by omega, by omega⟩, by omega, by omega⟩ ⟨by omega, by omega⟩) rfl (by simp) ?_
  try simp -dsimp
  try (first | exact fp_one (by decide) | refine fp_and (by decide) ?_)
  refine call_of (s_apply p q' r s b c ⟨⟨by omega, by omega⟩, by omega, by omega⟩ ⟨by omega, by omega⟩) rfl (by simp) ?_
  try simp -dsimp
  try (first | exact fp_one (by decide) | refine fp_and (by decide) ?_)
  refine call_of (wl) rfl (by simp) ?_
  try simp -dsimp
  try (first | exact fp_one (by decide) | refine fp_and (by decide) ?_)
  refine call_of (wi) rfl (by simp) ?_
  try simp -dsimp
  try (first | exact fp_one (by decide) | refine fp_and (by decide) ?_)
  refine call_of (s_cells A B C hA hC) rfl (by simp) ?_
  try simp -dsimp
  try (first | exact fp_one (by decide) | refine fp_and (by decide) ?_)
  refine awp_it (false :: false :: true :: false :: true :: false :: false :: true :: true :: false :: false :: false :: false :: false :: false :: false :: false :: false :: false :: false :: false :: false :: false :: false :: false :: false :: false :: false :: false :: false :: false :: false :: false :: false :: true :: true :: true :: []) (fun i : Nat => [(36, vi i)]) (fun i => match i with | 0 => [] | i + 1 => [(2, .box [vi f, vi A, vi B, vi C, .sli 5]), (5, .row 0 2 (is (mvP a b c A C (p, q', r, s) l (t, u) (i + 1))))]) (fun i => i ≤ l.length) (fun i => l.length - i) 0 ?_
  intro s0 e
  simp -dsimp at e
  subst e
  refine ⟨?_, ?_⟩
  · simp
  intro i hi
  cases i with
  | zero =>
    simp -dsimp [cellsL_len, hn]
    refine ⟨fun _ => ⟨by omega, fun x y hxy => ?_⟩, by rintro rfl; simp at h3; omega⟩
    obtain ⟨⟨k1, k2⟩, _, _⟩ := cell_of hA.1 hC.1 hxy
    have ht := stp 0 _ hxy
    simp only [mvP, List.take_zero, List.map_nil, List.nil_append] at ht
    rw [gen] at ht
    have b1 := mul_bd e1 (show x.natAbs ≤ 64 by omega)
    have b2 := mul_bd e2 (show y.natAbs ≤ 64 by omega)
    have b3 := mul_bd e3 (show x.natAbs ≤ 64 by omega)
    have b4 := mul_bd e4 (show y.natAbs ≤ 64 by omega)
    refine call_of (s_gapply S Q R P _ _ x y ⟨⟨by omega, by omega⟩, by omega, by omega⟩ ⟨by omega, by omega⟩ ⟨by omega, by omega⟩) rfl (by simp) ?_
    try simp -dsimp
    try (first | exact fp_one (by decide) | refine fp_and (by decide) ?_)
    refine call_of (s_at f a b c _ _ l hf (by omega) (by omega)) rfl (by simp) ?_
    try simp -dsimp
    try (first | exact fp_one (by decide) | refine fp_and (by decide) ?_)
    refine ⟨1, ⟨by rw [w64 (by omega) (by omega)]; simp, ?_⟩, by omega, by omega⟩
    simp only [mvP]
    simp [ht]
  | succ i =>
    simp -dsimp [cellsL_len, hn]
    have hml := mvP_len a b c A C (p, q', r, s) l (t, u) (i + 1)
    refine ⟨fun h5 => ⟨⟨by omega, h5⟩, by omega, fun x y hxy => ?_⟩, fun h5 => ?_⟩
    · obtain ⟨⟨k1, k2⟩, _, _⟩ := cell_of hA.1 hC.1 hxy
      have ht := stp (i + 1) _ hxy
      rw [gen] at ht
      have b1 := mul_bd e1 (show x.natAbs ≤ 64 by omega)
      have b2 := mul_bd e2 (show y.natAbs ≤ 64 by omega)
      have b3 := mul_bd e3 (show x.natAbs ≤ 64 by omega)
      have b4 := mul_bd e4 (show y.natAbs ≤ 64 by omega)
      refine call_of (s_gapply S Q R P _ _ x y ⟨⟨by omega, by omega⟩, by omega, by omega⟩ ⟨by omega, by omega⟩ ⟨by omega, by omega⟩) rfl (by simp) ?_
      try simp -dsimp
      try (first | exact fp_one (by decide) | refine fp_and (by decide) ?_)
      refine call_of (s_at f a b c _ _ l hf (by omega) (by omega)) rfl (by simp) ?_
      try simp -dsimp
      try (first | exact fp_one (by decide) | refine fp_and (by decide) ?_)
      refine ⟨⟨by omega, by omega⟩, by decide, i + 2, ⟨by rw [w64 (by omega) (by omega)]; simp; omega, ?_⟩, by omega, by omega⟩
      simp [ht]
    · rw [show l.length = i + 1 by omega]
end Go.Proofs.YtigebbijogidlaaGreatDoorFv
namespace Go.Proofs.YtigebbijogidlaaGreatDoorFv
open Go Go.Proofs
set_option maxRecDepth 10000
set_option maxHeartbeats 2000000
def mvx (A B C c : Int) (m : M4) (t : Int × Int) (k : Nat) : Nat := (num A B C ((apM m (((k / c.toNat : Nat) : Int), ((k % c.toNat : Nat) : Int))).1 + t.1) ((apM m (((k / c.toNat : Nat) : Int), ((k % c.toNat : Nat) : Int))).2 + t.2)).toNat
theorem mvx_eq {a b c A B C : Int} {m : M4} (h : okL a b c = true) (hm : ptM m) (I : Img a b c m A B C) {l : List Int} (hl : (l.length : Int) = a * c) (t : Int × Int) : setN (fun _ => true) (mvx A B C c m t) (fun k => l.getD k 0) (List.replicate l.length 0) l.length = mvP a b c A C m l t l.length := by
  obtain ⟨ha, hc, hb, hac⟩ := okL_spec.1 h
  obtain ⟨hA, hC, hB, hAC⟩ := okL_spec.1 I.ok
  have hn := img_len I hl
  have hN := I.n
  apply List.ext_getElem?
  intro j
  by_cases hj : j < l.length
  · have hr := num_range (a := a) (b := b) (c := c) (x := (iM m (((j / C.toNat : Nat) : Int) - t.1, ((j % C.toNat : Nat) : Int) - t.2)).1) (y := (iM m (((j / C.toNat : Nat) : Int) - t.1, ((j % C.toNat : Nat) : Int) - t.2)).2) (by omega) (by omega)
    have hcj : (cl A C)[j]? = some (((j / C.toNat : Nat) : Int), ((j % C.toNat : Nat) : Int)) := cellsL_get _ (by omega) _ _ (by omega)
    have nj : num A B C ((j / C.toNat : Nat) : Int) ((j % C.toNat : Nat) : Int) = j := num_cell (by omega) (by omega)
    generalize ((j / C.toNat : Nat) : Int) = jx at *
    generalize ((j % C.toNat : Nat) : Int) = jy at *
    rw [setN_get (p := fun _ => true) (i := (num a b c (iM m (jx - t.1, jy - t.2)).1 (iM m (jx - t.1, jy - t.2)).2).toNat) (m := l.length) (by simpa using hj) (by omega) (fun k hk => ?_) l.length (Nat.le_refl _)]
    · simp only [mvP, List.getElem?_map, List.getElem?_take_of_lt hj, hcj, Option.map_some]
      rw [if_pos ⟨by omega, trivial⟩]
      rfl
    · have nk : num a b c ((k / c.toNat : Nat) : Int) ((k % c.toNat : Nat) : Int) = k := num_cell (by omega) (by omega)
      unfold mvx
      generalize ((k / c.toNat : Nat) : Int) = kx at *
      generalize ((k % c.toNat : Nat) : Int) = ky at *
      have hr2 := num_range (a := A) (b := B) (c := C) (x := (apM m (kx, ky)).1 + t.1) (y := (apM m (kx, ky)).2 + t.2) (by omega) (by omega)
      have e1 : (num A B C ((apM m (kx, ky)).1 + t.1) ((apM m (kx, ky)).2 + t.2)).toNat = j ↔ num A B C ((apM m (kx, ky)).1 + t.1) ((apM m (kx, ky)).2 + t.2) = num A B C jx jy := by
        rw [nj]; omega
      have e2 : k = (num a b c (iM m (jx - t.1, jy - t.2)).1 (iM m (jx - t.1, jy - t.2)).2).toNat ↔ num a b c kx ky = num a b c (iM m (jx - t.1, jy - t.2)).1 (iM m (jx - t.1, jy - t.2)).2 := by
        rw [nk]; omega
      rw [e1, e2, num_eq (by omega) (by omega), num_eq (by omega) (by omega), I.iff]
      have e3 := iM_lin m (apM m (kx, ky)).1 (apM m (kx, ky)).2 (jx - t.1) (jy - t.2) (-1)
      rw [show iM m ((apM m (kx, ky)).1, (apM m (kx, ky)).2) = (kx, ky) from iM_ap hm.2 (kx, ky)] at e3
      rw [show (apM m (kx, ky)).1 + t.1 - jx = (apM m (kx, ky)).1 + -1 * (jx - t.1) by omega, show (apM m (kx, ky)).2 + t.2 - jy = (apM m (kx, ky)).2 + -1 * (jy - t.2) by omega, e3]
      simp only
      rw [show kx + -1 * (iM m (jx - t.1, jy - t.2)).1 = kx - (iM m (jx - t.1, jy - t.2)).1 by omega, show ky + -1 * (iM m (jx - t.1, jy - t.2)).2 = ky - (iM m (jx - t.1, jy - t.2)).2 by omega]
  · rw [List.getElem?_eq_none (by rw [setN_len]; simp; omega), List.getElem?_eq_none (by rw [mvP_len, cellsL_len]; omega)]
theorem ap_bd {m : M4} (hm : oneM m) {x y : Int} (hx : 0 ≤ x ∧ x < 64) (hy : 0 ≤ y ∧ y < 64) : (-128 ≤ m.1 * x + m.2.1 * y ∧ m.1 * x + m.2.1 * y ≤ 128) ∧ -128 ≤ m.2.2.1 * x + m.2.2.2 * y ∧ m.2.2.1 * x + m.2.2.2 * y ≤ 128 := by
  obtain ⟨⟨m1, m2⟩, m3, m4⟩ := hm
  have b1 := mul_bd m1 (show x.natAbs ≤ 64 by omega)
  have b2 := mul_bd m2 (show y.natAbs ≤ 64 by omega)
  have b3 := mul_bd m3 (show x.natAbs ≤ 64 by omega)
  have b4 := mul_bd m4 (show y.natAbs ≤ 64 by omega)
  clear m1 m2 m3 m4
  refine ⟨?_, ?_⟩ <;> omega
theorem s_spmove (f a b c : Int) (l : List Int) (m : M4) (t u : Int) (hf : okP f a b c l = true) (hm : ptM m) (ht : t.natAbs ≤ 1000) (hu : u.natAbs ≤ 1000) {A B C : Int} (I : Img a b c m A B C) (wl : Sp Tryz.prog 152 [aM4 m, aL a b c] (aL A B C) []) : Sp Tryz.prog 100 [aP f a b c l, aG m.1 m.2.1 m.2.2.1 m.2.2.2 t u] (aP f A B C (mvP a b c A C m l (t, u) l.length)) [] := by
  obtain ⟨_, h2, h3, _⟩ := okP_spec.1 hf
  obtain ⟨ha, hc, hb, hac⟩ := okL_spec.1 h2
  obtain ⟨hA, hC, hB, hAC⟩ := okL_spec.1 I.ok
  have h1 := ac_pos ha.1 hc.1
  have hN := I.n
  have hn := nat_n ha.1 hc.1 h3
  rw [← mvx_eq h2 hm I h3]
  have bd : ∀ x y : Int, _ → _ → _ := fun x y hx hy => ap_bd (x := x) (y := y) hm.1 hx hy
  have hm1 : (m.1.natAbs ≤ 1000 ∧ m.2.1.natAbs ≤ 1000) ∧ m.2.2.1.natAbs ≤ 1000 ∧ m.2.2.2.natAbs ≤ 1000 := by
    obtain ⟨⟨⟨m1, m2⟩, m3, m4⟩, hd⟩ := hm
    exact ⟨⟨by omega, by omega⟩, by omega, by omega⟩
  have ht1 : t.natAbs ≤ 1000000 ∧ u.natAbs ≤ 1000000 := ⟨by omega, by omega⟩
  have ht2 : (-1000 ≤ t ∧ t ≤ 1000) ∧ -1000 ≤ u ∧ u ≤ 1000 := by omega
  clear ht hu
  have hm0 := hm
  clear hm
  obtain ⟨p, q', r, s⟩ := m
  simp only at *
  generalize hix : mvx A B C c (p, q', r, s) (t, u) = ix at *
  refine sp_of (m := no) mixed Tryz.func100 k100 ?_
  simp -dsimp [q]
  refine call_of (wl) rfl (by simp) ?_
  try simp -dsimp
  try (first | exact fp_one (by decide) | refine fp_and (by decide) ?_)
  refine call_of (s_scells a b c ha hc) rfl (by simp) ?_
  try simp -dsimp
  try (first | exact fp_one (by decide) | refine fp_and (by decide) ?_)
  simp only [cellsL_len, hn]
  refine ⟨by omega, by decide, ?_⟩
  refine awp_it (false :: false :: true :: true :: true :: true :: true :: true :: true :: []) (fun i : Nat => [(8, vi i)]) (fun i => [(6, .row 0 2 (is (setN (fun _ => true) ix (fun k => l.getD k 0) (List.replicate l.length 0) i)))]) (fun i => i ≤ l.length) (fun i => l.length - i) 0 ?_
  intro s0 e
  simp -dsimp at e
  subst e
  refine ⟨?_, ?_⟩
  · simp [setN]
  intro i hi
  simp -dsimp [setN_len, cellsL_len, hn]
  refine ⟨fun h5 => ⟨by omega, fun x y hxy => ?_⟩, fun h5 => ?_⟩
  · obtain ⟨⟨k1, k2⟩, _, _⟩ := cell_of ha.1 hc.1 hxy
    have k4 : ix i = (num A B C (p * x + q' * y + t) (r * x + s * y + u)).toNat := by
      rw [← hix]
      have hg := cellsL_get c.toNat (by omega) a.toNat i (by omega)
      rw [hxy] at hg
      cases hg
      rfl
    have b0 := bd x y (by omega) (by omega)
    have w6 := s_sgapply p q' r s t u x y hm1 ⟨by omega, by omega⟩ ht1
    clear hm1 ht1 hm0 bd
    have k5 := num_range (a := A) (b := B) (c := C) (x := p * x + q' * y + t) (y := r * x + s * y + u) (by omega) (by omega)
    have w5 := s_snumber A B C (p * x + q' * y + t) (r * x + s * y + u) hA hB hC (by omega) (by omega)
    generalize num A B C (p * x + q' * y + t) (r * x + s * y + u) = K at *
    generalize p * x + q' * y + t = X at *
    generalize r * x + s * y + u = Y at *
    clear b0
    refine call_of (w6) rfl (by simp) ?_
    try simp -dsimp
    try (first | exact fp_one (by decide) | refine fp_and (by decide) ?_)
    refine call_of (w5) rfl (by simp) ?_
    try simp -dsimp
    try (first | exact fp_one (by decide) | refine fp_and (by decide) ?_)
    refine ⟨h5, fun z hz => ?_⟩
    simp only [setN_len, List.length_replicate]
    refine ⟨⟨by omega, by omega⟩, by omega, by decide, i + 1, ⟨by rw [w64 (by omega) (by omega)]; simp, ?_⟩, by omega, by omega⟩
    simp [setN, k4, hz]
  · rw [show i = l.length by omega]
/-! the images, as lists -/
abbrev PV := Int × (Int × Int × Int) × List Int
theorem mvP_mod {a b c A B C : Int} {m : M4} (h : okL a b c = true) (I : Img a b c m A B C) {l : List Int} {t t' : Int × Int} (n : Nat) (hs : spn A B C (t.1 - t'.1) (t.2 - t'.2)) : mvP a b c A C m l t n = mvP a b c A C m l t' n := by
  obtain ⟨ha, hc, hb, hac⟩ := okL_spec.1 h
  unfold mvP
  refine List.map_congr_left fun v _ => atV_eq (by omega) (by omega) ?_
  have e1 := iM_lin m (v.1 - t'.1) (v.2 - t'.2) (t.1 - t'.1) (t.2 - t'.2) (-1)
  rw [show v.1 - t'.1 + -1 * (t.1 - t'.1) = v.1 - t.1 by omega, show v.2 - t'.2 + -1 * (t.2 - t'.2) = v.2 - t.2 by omega] at e1
  rw [e1]
  have h2 := (spn_sub a b c).m (-1) ((I.iff _ _).1 hs)
  simp only
  rw [show (iM m (v.1 - t'.1, v.2 - t'.2)).1 + -1 * (iM m (t.1 - t'.1, t.2 - t'.2)).1 - (iM m (v.1 - t'.1, v.2 - t'.2)).1 = -1 * (iM m (t.1 - t'.1, t.2 - t'.2)).1 by omega, show (iM m (v.1 - t'.1, v.2 - t'.2)).2 + -1 * (iM m (t.1 - t'.1, t.2 - t'.2)).2 - (iM m (v.1 - t'.1, v.2 - t'.2)).2 = -1 * (iM m (t.1 - t'.1, t.2 - t'.2)).2 by omega]
  exact h2
def rdV (a b c : Int) (v : Int × Int) : Int × Int := (redX a b c v.1 v.2, v.2 % c)
theorem rdV_mem {a b c : Int} (ha : 1 ≤ a) (hc : 1 ≤ c) (v : Int × Int) : rdV a b c v ∈ cl a c := List.mem_of_getElem? (cl_ix ha hc (red_lt ha hc))
theorem rdV_num {a b c : Int} (ha : 0 < a) (hc : 0 < c) (v : Int × Int) : num a b c (rdV a b c v).1 (rdV a b c v).2 = num a b c v.1 v.2 := by
  have := num_add (a := a) (b := b) (c := c) (x := v.1) (y := v.2) (u := 0) (v := 0) hc
  simpa [rdV] using this
theorem rdV_spn {a b c : Int} (ha : 0 < a) (hc : 0 < c) (v : Int × Int) : spn a b c ((rdV a b c v).1 - v.1) ((rdV a b c v).2 - v.2) := (num_eq ha hc).1 (rdV_num ha hc v)
theorem same_set {a b c A B C : Int} {m : M4} (h : okL a b c = true) (hm : ptM m) (I : Img a b c m A B C) {l : List Int} (n : Nat) (x : List Int) : (x ∈ (cl A C).map fun t => mvP a b c A C m l t n) ↔ x ∈ (cl a c).map fun v => mvP a b c A C m l (apM m v) n := by
  obtain ⟨ha, hc, hb, hac⟩ := okL_spec.1 h
  obtain ⟨hA, hC, hB, hAC⟩ := okL_spec.1 I.ok
  simp only [List.mem_map]
  constructor
  · rintro ⟨t, _, rfl⟩
    refine ⟨rdV a b c (iM m t), rdV_mem ha.1 hc.1 _, mvP_mod h I n ?_⟩
    rw [I.iff]
    have e := iM_lin m (apM m (rdV a b c (iM m t))).1 (apM m (rdV a b c (iM m t))).2 t.1 t.2 (-1)
    rw [show iM m ((apM m (rdV a b c (iM m t))).1, (apM m (rdV a b c (iM m t))).2) = rdV a b c (iM m t) from iM_ap hm.2 _, show (t.1, t.2) = t from rfl] at e
    have h2 := rdV_spn (a := a) (b := b) (c := c) (by omega) (by omega) (iM m t)
    rw [show (apM m (rdV a b c (iM m t))).1 - t.1 = (apM m (rdV a b c (iM m t))).1 + -1 * t.1 by omega, show (apM m (rdV a b c (iM m t))).2 - t.2 = (apM m (rdV a b c (iM m t))).2 + -1 * t.2 by omega, e]
    simp only
    rw [show (rdV a b c (iM m t)).1 + -1 * (iM m t).1 = (rdV a b c (iM m t)).1 - (iM m t).1 by omega, show (rdV a b c (iM m t)).2 + -1 * (iM m t).2 = (rdV a b c (iM m t)).2 - (iM m t).2 by omega]
    exact h2
  · rintro ⟨v, _, rfl⟩
    exact ⟨rdV A B C (apM m v), rdV_mem hA.1 hC.1 _, mvP_mod h I n (rdV_spn (by omega) (by omega) _)⟩
theorem mvP_comp {a b c A B C : Int} {m : M4} (h : okL a b c = true) (hm : ptM m) (I : Img a b c m A B C) {l : List Int} (hl : (l.length : Int) = a * c) (t : Int × Int) : mvP A B C A C (1, 0, 0, 1) (mvP a b c A C m l (0, 0) l.length) t l.length = mvP a b c A C m l t l.length := by
  obtain ⟨ha, hc, hb, hac⟩ := okL_spec.1 h
  obtain ⟨hA, hC, hB, hAC⟩ := okL_spec.1 I.ok
  have hn := img_len I hl
  have hfull : (cl A C).take l.length = cl A C := List.take_of_length_le (by rw [cellsL_len]; omega)
  unfold mvP
  rw [hfull]
  refine List.map_congr_left fun v _ => ?_
  have e0 : iM (1, 0, 0, 1) (v.1 - t.1, v.2 - t.2) = (v.1 - t.1, v.2 - t.2) := by simp [iM, dtM]
  rw [e0]
  generalize hw : (v.1 - t.1, v.2 - t.2) = w
  have hr := num_range (a := A) (b := B) (c := C) (x := w.1) (y := w.2) (by omega) (by omega)
  obtain ⟨c1, c2⟩ := cell_num (a := A) (b := B) (c := C) (x := w.1) (y := w.2) (by omega) (by omega)
  have hg := cellsL_get C.toNat (by omega) A.toNat (num A B C w.1 w.2).toNat (by have := I.n; omega)
  rw [c1, c2] at hg
  rw [show atV A B C ((cl A C).map fun v => atV a b c l (iM m (v.1 - (0, 0).1, v.2 - (0, 0).2))) w = atV a b c l (iM m (rdV A B C w)) by
    unfold atV
    rw [List.getD_eq_getElem?_getD, List.getElem?_map, hg]
    simp [rdV]]
  refine atV_eq (by omega) (by omega) ?_
  have h2 := (I.iff _ _).1 (rdV_spn (a := A) (b := B) (c := C) (by omega) (by omega) w)
  have e := iM_lin m (rdV A B C w).1 (rdV A B C w).2 w.1 w.2 (-1)
  rw [show (w.1, w.2) = w from rfl, show ((rdV A B C w).1, (rdV A B C w).2) = rdV A B C w from rfl] at e
  rw [show (rdV A B C w).1 - w.1 = (rdV A B C w).1 + -1 * w.1 by omega, show (rdV A B C w).2 - w.2 = (rdV A B C w).2 + -1 * w.2 by omega, e] at h2
  simp only at h2
  rw [show (iM m (rdV A B C w)).1 + -1 * (iM m w).1 = (iM m (rdV A B C w)).1 - (iM m w).1 by omega, show (iM m (rdV A B C w)).2 + -1 * (iM m w).2 = (iM m (rdV A B C w)).2 - (iM m w).2 by omega] at h2
  exact h2
end Go.Proofs.YtigebbijogidlaaGreatDoorFv
namespace Go.Proofs.YtigebbijogidlaaGreatDoorFv
open Go Go.Proofs
set_option maxRecDepth 10000
set_option maxHeartbeats 1000000
def vp (P : PV) : V := .ag [.int .i64 P.1, .int .i64 P.2.1.1, .int .i64 P.2.1.2.1, .int .i64 P.2.1.2.2, vis P.2.2]
def ps (l : List PV) : List V := l.map vp
abbrev vps (l : List PV) : V := .sl 5 (ps l)
abbrev aPV (P : PV) : A := aP P.1 P.2.1.1 P.2.1.2.1 P.2.1.2.2 P.2.2
@[simp] theorem ps_nil : ps [] = [] := rfl
@[simp] theorem ps_len (l : List PV) : (ps l).length = l.length := by simp [ps]
@[simp] theorem ps_get (l : List PV) (n : Nat) (K : V → Prop) : fA ((ps l)[n]?) K = ∀ P, l[n]? = some P → K (.ag [.int .i64 P.1, .int .i64 P.2.1.1, .int .i64 P.2.1.2.1, .int .i64 P.2.1.2.2, .sl 0 (is P.2.2)]) := by unfold ps; exact fA_map
@[simp] theorem ps_app (l : List PV) (f a b c : Int) (k : List Int) : ps l ++ [.ag [.int .i64 f, .int .i64 a, .int .i64 b, .int .i64 c, .sl 0 (is k)]] = ps (l ++ [(f, (a, b, c), k)]) := by simp [ps, vp]
@[simp] theorem ps_inj (a b : List PV) : ps a = ps b ↔ a = b := by
  constructor
  · refine fun h => (List.map_inj_right (fun x y e => ?_)).1 h
    obtain ⟨f, ⟨a, b, c⟩, l⟩ := x
    obtain ⟨f', ⟨a', b', c'⟩, l'⟩ := y
    simp only [vp, V.ag.injEq, List.cons.injEq, V.int.injEq, V.sl.injEq, true_and, and_true] at e
    obtain ⟨rfl, rfl, rfl, rfl, h5⟩ := e
    simp at h5
    rw [h5]
  · rintro rfl; rfl
/-! the order -/
def pl (P : PV) : List Int := [P.1, P.2.1.1, P.2.1.2.1, P.2.1.2.2] ++ P.2.2
theorem pl_len (P : PV) : (pl P).length = P.2.2.length + 4 := by simp [pl]
theorem pl_inj {P Q : PV} (h : pl P = pl Q) : P = Q := by
  obtain ⟨f, ⟨a, b, c⟩, l⟩ := P
  obtain ⟨f', ⟨a', b', c'⟩, l'⟩ := Q
  simpa [pl, and_assoc] using h
def ltP (P Q : PV) : Bool := lexLt (pl P) (pl Q)
theorem ltP_irr (P : PV) : ltP P P = false := lexLt_irr _
theorem ltP_trans {P Q R : PV} (h1 : P.2.2.length = Q.2.2.length) (h2 : Q.2.2.length = R.2.2.length) (h3 : ltP P Q = true) (h4 : ltP Q R = true) : ltP P R = true := lexLt_trans (by simp [pl_len, h1]) (by simp [pl_len, h2]) h3 h4
theorem lexLt_tri' : ∀ {xs ys : List Int}, xs.length = ys.length → xs = ys ∨ lexLt xs ys = true ∨ lexLt ys xs = true
  | [], [], _ => .inl rfl
  | x :: xs, y :: ys, h => by
    rcases lexLt_tri' (xs := xs) (ys := ys) (by simpa using h) with e | e | e
    · subst e
      rcases Int.lt_trichotomy x y with e | e | e
      · exact .inr (.inl (by simp [lexLt, e, show x ≠ y by omega]))
      · subst e; exact .inl rfl
      · exact .inr (.inr (by simp [lexLt, e, show y ≠ x by omega]))
    · rcases Int.lt_trichotomy x y with f | f | f
      · exact .inr (.inl (by simp [lexLt, f, show x ≠ y by omega]))
      · subst f; exact .inr (.inl (by simp [lexLt, e]))
      · exact .inr (.inr (by simp [lexLt, f, show y ≠ x by omega]))
    · rcases Int.lt_trichotomy x y with f | f | f
      · exact .inr (.inl (by simp [lexLt, f, show x ≠ y by omega]))
      · subst f; exact .inr (.inr (by simp [lexLt, e]))
      · exact .inr (.inr (by simp [lexLt, f, show y ≠ x by omega]))
theorem ltP_tri {P Q : PV} (h : P.2.2.length = Q.2.2.length) (h1 : ltP P Q = false) (h2 : ltP Q P = false) : P = Q := by
  rcases lexLt_tri' (xs := pl P) (ys := pl Q) (by simp [pl_len, h]) with e | e | e
  · exact pl_inj e
  · unfold ltP at h1; rw [h1] at e; cases e
  · unfold ltP at h2; rw [h2] at e; cases e
/-! the least one -/
def minS (b y : PV) : PV := if ltP y b = true then y else b
def minL (x : PV) (l : List PV) : PV := l.foldl minS x
theorem minL_mem : ∀ (l : List PV) (x : PV), minL x l ∈ x :: l
  | [], x => by simp [minL]
  | y :: l, x => by
    have := minL_mem l (minS x y)
    rw [show minL x (y :: l) = minL (minS x y) l from rfl]
    rcases List.mem_cons.1 this with e | e
    · rw [e]
      unfold minS
      split <;> simp
    · simp [e]
theorem minL_least {n : Nat} : ∀ (l : List PV) (x : PV), (∀ y ∈ x :: l, y.2.2.length = n) → ∀ y ∈ x :: l, ltP y (minL x l) = false
  | [], x, _, y, hy => by
    rw [List.mem_singleton.1 hy]
    exact ltP_irr x
  | z :: l, x, hn, y, hy => by
    have hx := hn x (by simp)
    have hz := hn z (by simp)
    have hm : (minS x z).2.2.length = n := by unfold minS; split <;> assumption
    have ih := minL_least (n := n) l (minS x z) (fun y hy => by
      rcases List.mem_cons.1 hy with e | e
      · rw [e]; exact hm
      · exact hn y (by simp [e]))
    rw [show minL x (z :: l) = minL (minS x z) l from rfl]
    have hlen : (minL (minS x z) l).2.2.length = n := by
      have := minL_mem l (minS x z)
      rcases List.mem_cons.1 this with e | e
      · rw [e]; exact hm
      · exact hn _ (by simp [e])
    have h0 := ih (minS x z) (by simp)
    generalize minL (minS x z) l = M at *
    unfold minS at h0
    rcases List.mem_cons.1 hy with e | e
    · rw [e]
      by_cases hlt : ltP z x = true
      · rw [if_pos hlt] at h0
        cases hq : ltP x M with
        | false => rfl
        | true =>
          rw [ltP_trans (by omega) (by omega) hlt hq] at h0
          cases h0
      · rw [if_neg hlt] at h0; exact h0
    · rcases List.mem_cons.1 e with e | e
      · rw [e]
        by_cases hlt : ltP z x = true
        · rw [if_pos hlt] at h0; exact h0
        · rw [if_neg hlt] at h0
          cases hq : ltP z M with
          | false => rfl
          | true =>
            -- z is less than M, M not greater than x, x not greater than z
            have hzx : ltP z x = false := by simpa using hlt
            rcases lexLt_tri' (xs := pl x) (ys := pl z) (by simp [pl_len, hx, hz]) with e2 | e2 | e2
            · rw [pl_inj e2] at h0; rw [h0] at hq; cases hq
            · rw [ltP_trans (by omega) (by omega) (show ltP x z = true from e2) hq] at h0; cases h0
            · rw [show ltP z x = true from e2] at hzx; cases hzx
      · exact ih y (by simp [e])
theorem min_uniq {n : Nat} {x x' : PV} {l l' : List PV} (h : ∀ y, y ∈ x :: l ↔ y ∈ x' :: l') (hn : ∀ y ∈ x :: l, y.2.2.length = n) : minL x l = minL x' l' := by
  have hn' : ∀ y ∈ x' :: l', y.2.2.length = n := fun y hy => hn y ((h y).2 hy)
  have m1 := minL_mem l x
  have m2 := minL_mem l' x'
  exact ltP_tri (by rw [hn _ m1, hn' _ m2]) (minL_least l' x' hn' _ ((h _).1 m1)) (minL_least l x hn _ ((h _).2 m2))
end Go.Proofs.YtigebbijogidlaaGreatDoorFv
namespace Go.Proofs.YtigebbijogidlaaGreatDoorFv
open Go Go.Proofs
set_option maxRecDepth 10000
set_option maxHeartbeats 2000000
def l3 (L : Int × Int × Int) : List Int := [L.1, L.2.1, L.2.2]
theorem l3_inj (L M : Int × Int × Int) : l3 L = l3 M ↔ L = M := by
  obtain ⟨a, b, c⟩ := L
  obtain ⟨a', b', c'⟩ := M
  simp [l3]
theorem s_cmpL (L M : Int × Int × Int) : Sp Tryz.prog 159 [aL L.1 L.2.1 L.2.2, aL M.1 M.2.1 M.2.2] (vi (if L = M then 0 else if lexLt (l3 L) (l3 M) = true then -1 else 1)) [] := by
  refine sp_of (m := no) mixed Tryz.func159 k159 ?_
  have w := s_cmpN (l3 L) (l3 M) rfl (by simp [l3])
  simp only [l3_inj] at w
  simp -dsimp [q]
  refine call_of ((w : Sp Tryz.prog _ [.v (.sl 0 [.int .i64 L.1, .int .i64 L.2.1, .int .i64 L.2.2]), .v (.sl 0 [.int .i64 M.1, .int .i64 M.2.1, .int .i64 M.2.2])] _ _)) rfl (by simp) ?_
  try simp -dsimp
  try (first | exact fp_one (by decide) | refine fp_and (by decide) ?_)
theorem s_nan (x : Int) : Sp Tryz.prog 281 [vi x] (vb false) [] := by
  refine sp_of (m := no) mixed Tryz.func281 k281 ?_
  simp -dsimp [q]
theorem s_cmpI (x y : Int) : Sp Tryz.prog 229 [vi x, vi y] (vi (if x = y then 0 else if x < y then -1 else 1)) [] := by
  refine sp_of (m := no) mixed Tryz.func229 k229 ?_
  simp -dsimp [q]
  refine call_of (s_nan x) rfl (by simp) ?_
  try simp -dsimp
  try (first | exact fp_one (by decide) | refine fp_and (by decide) ?_)
  refine call_of (s_nan y) rfl (by simp) ?_
  try simp -dsimp
  try (first | exact fp_one (by decide) | refine fp_and (by decide) ?_)
  refine ⟨fun h => by rw [if_neg (by omega), if_pos h], fun h => ⟨fun h1 => by rw [if_neg (by omega), if_neg (by omega)], fun h1 h2 => absurd (Int.le_antisymm h1 h) h2⟩⟩
theorem s_cmpS (xs ys : List Int) (hl : xs.length = ys.length) (hx : xs.length ≤ 1048576) : Sp Tryz.prog 160 [.v (vis xs), .v (vis ys)] (vi (if xs = ys then 0 else if lexLt xs ys = true then -1 else 1)) [] := by
  refine sp_of (m := no) mixed Tryz.func160 k160 ?_
  simp -dsimp [q]
  refine awp_it (true :: true :: false :: false :: false :: false :: false :: false :: false :: true :: true :: true :: []) (fun i : Nat => [(11, vi i)]) (fun i => []) (fun i => i ≤ xs.length ∧ xs.take i = ys.take i) (fun i => xs.length - i) 0 ?_
  intro s0 e
  simp -dsimp at e
  subst e
  refine ⟨?_, ?_⟩
  · simp
  rintro i ⟨hi, ht⟩
  simp -dsimp
  refine ⟨fun h1 => ⟨h1, fun x hx' => ⟨fun h2 => by omega, fun h2 => ⟨by omega, fun y hy' => ?_⟩⟩⟩, fun h1 => ?_⟩
  · refine call_of (s_cmpI x y) rfl (by simp) ?_
    try simp -dsimp
    try (first | exact fp_one (by decide) | refine fp_and (by decide) ?_)
    refine ⟨fun hn _ => ?_, fun hz => ?_⟩
    · have hl2 := lexLt_at ht hx' hy' hn
      rw [if_neg hn, if_neg hl2.2, hl2.1]
      simp
    · have e : x = y := by
        cases Decidable.em (x = y) with
        | inl e => exact e
        | inr e =>
          have := hz e
          split at this <;> cases this
      subst e
      refine ⟨i + 1, by rw [w64 (by omega) (by omega)]; simp, ⟨by omega, ?_⟩, by omega⟩
      rw [List.take_add_one, List.take_add_one, ht, hx', hy']
  · rw [List.take_of_length_le h1, List.take_of_length_le (by omega)] at ht
    exact ⟨fun h => by omega, fun _ hn => absurd ht hn⟩
/-! patterns -/
theorem ltP_cases (P Q : PV) : ltP P Q = if P.1 = Q.1 then (if P.2.1 = Q.2.1 then lexLt P.2.2 Q.2.2 else lexLt (l3 P.2.1) (l3 Q.2.1)) else decide (P.1 < Q.1) := by
  obtain ⟨f, ⟨a, b, c⟩, l⟩ := P
  obtain ⟨f', ⟨a', b', c'⟩, l'⟩ := Q
  simp only [ltP, pl, l3, List.cons_append, List.nil_append, lexLt, Prod.mk.injEq]
  by_cases h1 : f = f' <;> by_cases h2 : a = a' <;> by_cases h3 : b = b' <;> by_cases h4 : c = c' <;> simp [h1, h2, h3, h4]
def cmpb (P Q : PV) : Prop := (P.2.1 = Q.2.1 → P.2.2.length = Q.2.2.length) ∧ P.2.2.length ≤ 1048576 ∧ Q.2.2.length ≤ 1048576
theorem s_cmpP (P Q : PV) (h : cmpb P Q) : ∃ k, Sp Tryz.prog 105 [aPV P, aPV Q] (vi k) [] ∧ (k < 0 ↔ ltP P Q = true) ∧ (k = 0 ↔ P = Q) := by
  have w1 := s_cmpN [P.1] [Q.1] rfl (by simp)
  have w2 := s_cmpL P.2.1 Q.2.1
  rw [ltP_cases]
  by_cases hf : P.1 = Q.1
  case neg =>
    rw [if_neg (by simpa using hf)] at w1
    rw [if_neg hf]
    refine ⟨if lexLt [P.1] [Q.1] = true then -1 else 1, ?_, ?_, ?_⟩
    · refine sp_of (m := no) mixed Tryz.func105 k105 ?_
      simp -dsimp [q, hf]
      refine call_of ((w1 : Sp Tryz.prog _ [.v (.sl 0 [.int .i64 P.1]), .v (.sl 0 [.int .i64 Q.1])] _ _)) rfl (by simp) ?_
      try simp -dsimp
      try (first | exact fp_one (by decide) | refine fp_and (by decide) ?_)
    · simp only [lexLt, if_neg hf]
      by_cases hl : P.1 < Q.1 <;> simp [hl]
    · constructor
      · intro e; split at e <;> cases e
      · rintro rfl; exact absurd rfl hf
  rw [if_pos hf]
  by_cases hL : P.2.1 = Q.2.1
  case neg =>
    rw [if_neg hL] at w2 ⊢
    refine ⟨if lexLt (l3 P.2.1) (l3 Q.2.1) = true then -1 else 1, ?_, ?_, ?_⟩
    · refine sp_of (m := no) mixed Tryz.func105 k105 ?_
      simp -dsimp [q, hf]
      refine call_of (w2) rfl (by simp) ?_
      try simp -dsimp
      try (first | exact fp_one (by decide) | refine fp_and (by decide) ?_)
      split <;> simp
    · split <;> simp_all
    · constructor
      · intro e; split at e <;> cases e
      · rintro rfl; exact absurd rfl hL
  rw [if_pos hL] at w2 ⊢
  have w3 := s_cmpS P.2.2 Q.2.2 (h.1 hL) h.2.1
  refine ⟨if P.2.2 = Q.2.2 then 0 else if lexLt P.2.2 Q.2.2 = true then -1 else 1, ?_, ?_, ?_⟩
  · refine sp_of (m := no) mixed Tryz.func105 k105 ?_
    simp -dsimp [q, hf]
    refine call_of (w2) rfl (by simp) ?_
    try simp -dsimp
    try (first | exact fp_one (by decide) | refine fp_and (by decide) ?_)
    refine call_of (w3) rfl (by simp) ?_
    try simp -dsimp
    try (first | exact fp_one (by decide) | refine fp_and (by decide) ?_)
  · by_cases e : P.2.2 = Q.2.2
    · rw [if_pos e, e, lexLt_irr]; simp
    · rw [if_neg e]; split <;> simp_all
  · constructor
    · intro e
      have : P.2.2 = Q.2.2 := by
        by_cases e2 : P.2.2 = Q.2.2
        · exact e2
        · rw [if_neg e2] at e; split at e <;> cases e
      exact Prod.ext hf (Prod.ext hL this)
    · rintro rfl; simp
theorem s_lessL2 (xs ys : List Int) (hx : xs.length ≤ 2097152) (hy : ys.length ≤ 2097152) (h : xs.length = ys.length ∨ ∃ (i : Nat) (x y : Int), xs.take i = ys.take i ∧ xs[i]? = some x ∧ ys[i]? = some y ∧ x ≠ y) : Sp Tryz.prog 161 [.v (vis xs), .v (vis ys)] (vb (lexLt xs ys)) [] := by
  refine sp_of (m := no) mixed Tryz.func161 k161 ?_
  simp -dsimp [q]
  refine awp_it (true :: true :: false :: false :: false :: true :: []) (fun i : Nat => [(5, vi i)]) (fun i => []) (fun i => i ≤ xs.length ∧ i ≤ ys.length ∧ xs.take i = ys.take i) (fun i => xs.length - i) 0 ?_
  intro s0 e
  simp -dsimp at e
  subst e
  refine ⟨?_, ?_⟩
  · simp
  rintro i ⟨hi, hj, ht⟩
  have over : xs.length ≤ i ∨ ys.length ≤ i → xs = ys := fun ho => by
    rcases h with h | ⟨j, x, y, t1, t2, t3, t4⟩
    · rw [List.take_of_length_le (by omega), List.take_of_length_le (by omega)] at ht
      exact ht
    · exfalso
      have a1 := (List.getElem?_eq_some_iff.1 t2).1
      have a2 := (List.getElem?_eq_some_iff.1 t3).1
      have b1 : (xs.take i)[j]? = some x := by rw [List.getElem?_take_of_lt (by omega)]; exact t2
      have b2 : (ys.take i)[j]? = some y := by rw [List.getElem?_take_of_lt (by omega)]; exact t3
      rw [ht, b2] at b1
      exact t4 (Option.some.inj b1).symm
  simp -dsimp
  refine ⟨fun h1 => ⟨fun h2 => ⟨h1, fun x hx' => ⟨h2, fun y hy' => ⟨fun hn => ?_, fun e => ?_⟩⟩⟩, fun h2 => ?_⟩, fun h1 => ?_⟩
  · refine ⟨h1, fun x2 hx2 => ⟨h2, fun y2 hy2 => ?_⟩⟩
    rw [hx'] at hx2
    rw [hy'] at hy2
    cases hx2
    cases hy2
    exact (lexLt_at ht hx' hy' hn).1.symm
  · subst e
    refine ⟨i + 1, by rw [w64 (by omega) (by omega)]; simp, ⟨by omega, by omega, ?_⟩, by omega⟩
    rw [List.take_add_one, List.take_add_one, ht, hx', hy']
  · rw [over (.inr h2), lexLt_irr]
    simp
  · rw [over (.inl h1), lexLt_irr]
    simp
theorem s_slessP (P Q : PV) (h : cmpb P Q) : Sp Tryz.prog 106 [aPV P, aPV Q] (vb (ltP P Q)) [] := by
  refine sp_of (m := no) mixed Tryz.func106 k106 ?_
  have w : Sp Tryz.prog 161 [.v (vis (pl P)), .v (vis (pl Q))] (vb (lexLt (pl P) (pl Q))) [] := by
    obtain ⟨h1, h2, h3⟩ := h
    refine s_lessL2 _ _ (by rw [pl_len]; omega) (by rw [pl_len]; omega) ?_
    by_cases e : pl P = pl Q
    · exact .inl (by rw [e])
    obtain ⟨f, ⟨a, b, c⟩, l⟩ := P
    obtain ⟨f', ⟨a', b', c'⟩, l'⟩ := Q
    simp only [pl, List.cons_append, List.nil_append]
    by_cases e1 : f = f'
    · subst e1
      by_cases e2 : a = a'
      · subst e2
        by_cases e3 : b = b'
        · subst e3
          by_cases e4 : c = c'
          · subst e4
            exact .inl (by simpa using h1 rfl)
          · exact .inr ⟨3, c, c', rfl, rfl, rfl, e4⟩
        · exact .inr ⟨2, b, b', rfl, rfl, rfl, e3⟩
      · exact .inr ⟨1, a, a', rfl, rfl, rfl, e2⟩
    · exact .inr ⟨0, f, f', rfl, rfl, rfl, e1⟩
  rw [show lexLt (pl P) (pl Q) = ltP P Q from rfl] at w
  have hb1 := h.2.1
  have hb2 := h.2.2
  have ep : ∀ R : PV, vis (pl R) = .sl 0 ([.int .i64 R.1, .int .i64 R.2.1.1, .int .i64 R.2.1.2.1, .int .i64 R.2.1.2.2] ++ is R.2.2) := fun R => by simp [pl, is]
  rw [ep P, ep Q] at w
  simp -dsimp [q]
  refine ⟨⟨by omega, by omega⟩, ⟨by omega, by omega⟩, ?_⟩
  refine call_of (w) rfl (by simp) ?_
  try simp -dsimp
  try (first | exact fp_one (by decide) | refine fp_and (by decide) ?_)
end Go.Proofs.YtigebbijogidlaaGreatDoorFv
namespace Go.Proofs.YtigebbijogidlaaGreatDoorFv
open Go Go.Proofs
set_option maxRecDepth 10000
set_option maxHeartbeats 1000000
theorem s_smats (f : Int) (hf : 0 ≤ f ∧ f ≤ 1) : Sp Tryz.prog 118 [vi f] (.sli 0) [.row 4 73 (ms (pmL f 81))] := by
  refine sp_of (m := no) mixed Tryz.func118 k118 ?_
  simp -dsimp [q]
  refine awp_it (true :: false :: false :: true :: true :: []) (fun i : Nat => [(4, vi i)]) (fun i => [(0, .row 4 73 (ms (pmL f i)))]) (fun i => i ≤ 81) (fun i => 81 - i) 0 ?_
  intro s0 e
  simp -dsimp at e
  subst e
  refine ⟨?_, ?_⟩
  · simp [pmL]
  intro i hi
  have hlen := pmL_len f i
  have hs := pmL_succ f i
  have a1 : IntKind.i64.wrap ((i : Int) / 27) = (i : Int) / 27 := w64 (by omega) (by omega)
  have a2 : IntKind.i64.wrap ((i : Int) / 9) = (i : Int) / 9 := w64 (by omega) (by omega)
  have a3 : IntKind.i64.wrap ((i : Int) / 3) = (i : Int) / 3 := w64 (by omega) (by omega)
  have b2 : ((i : Int) / 9).tmod 3 = (i : Int) / 9 % 3 := Int.tmod_eq_emod_of_nonneg (by omega)
  have b3 : ((i : Int) / 3).tmod 3 = (i : Int) / 3 % 3 := Int.tmod_eq_emod_of_nonneg (by omega)
  have b4 : (i : Int).tmod 3 = (i : Int) % 3 := Int.tmod_eq_emod_of_nonneg (by omega)
  have c1 : IntKind.i64.wrap ((i : Int) / 27 - 1) = (i : Int) / 27 - 1 := w64 (by omega) (by omega)
  have c2 : IntKind.i64.wrap ((i : Int) / 9 % 3 - 1) = (i : Int) / 9 % 3 - 1 := w64 (by omega) (by omega)
  have c3 : IntKind.i64.wrap ((i : Int) / 3 % 3 - 1) = (i : Int) / 3 % 3 - 1 := w64 (by omega) (by omega)
  have c4 : IntKind.i64.wrap ((i : Int) % 3 - 1) = (i : Int) % 3 - 1 := w64 (by omega) (by omega)
  have d1 : -1 ≤ (i : Int) / 27 - 1 ∧ ((i : Int) < 81 → (i : Int) / 27 - 1 ≤ 1) := ⟨by omega, by omega⟩
  have d2 : -1 ≤ (i : Int) / 9 % 3 - 1 ∧ (i : Int) / 9 % 3 - 1 ≤ 1 := ⟨by omega, by omega⟩
  have d3 : -1 ≤ (i : Int) / 3 % 3 - 1 ∧ (i : Int) / 3 % 3 - 1 ≤ 1 := ⟨by omega, by omega⟩
  have d4 : -1 ≤ (i : Int) % 3 - 1 ∧ (i : Int) % 3 - 1 ≤ 1 := ⟨by omega, by omega⟩
  have hmat : mat81 i = ((i : Int) / 27 - 1, (i : Int) / 9 % 3 - 1, (i : Int) / 3 % 3 - 1, (i : Int) % 3 - 1) := rfl
  simp -dsimp [a1, a2, a3, b2, b3, b4, c1, c2, c3, c4]
  refine ⟨fun h1 => ?_, fun h1 => ?_⟩
  · generalize (i : Int) / 27 - 1 = a at *
    generalize (i : Int) / 9 % 3 - 1 = b at *
    generalize (i : Int) / 3 % 3 - 1 = c at *
    generalize (i : Int) % 3 - 1 = d at *
    have d1' := d1.2 (by omega)
    rw [hmat] at hs
    refine call_of (s_skeeps f a b c d hf ⟨⟨by omega, by omega⟩, by omega, by omega⟩) rfl (by simp) ?_
    try simp -dsimp
    try (first | exact fp_one (by decide) | refine fp_and (by decide) ?_)
    refine ⟨fun e => ?_, fun e => ?_⟩
    · rw [if_pos e] at hs
      refine ⟨⟨by omega, by omega⟩, i + 1, ?_, by omega, by omega⟩
      exact ⟨by rw [w64 (by omega) (by omega)]; simp, by rw [hs]⟩
    · rw [if_neg (by rw [e]; simp)] at hs
      rw [List.append_nil] at hs
      exact ⟨i + 1, ⟨by rw [w64 (by omega) (by omega)]; simp, by rw [hs]⟩, by omega, by omega⟩
  · rw [show i = 81 by omega]
abbrev mtL (f a b c : Int) : List M4 := (pmL f 81).filter fun m => keepL a b c m
theorem flt_succ {α : Type} {p : α → Bool} {l : List α} {i : Nat} {g : α} (h : l[i]? = some g) : (l.take (i + 1)).filter p = if p g = true then (l.take i).filter p ++ [g] else (l.take i).filter p := by
  rw [List.take_add_one, h, List.filter_append]
  cases hm : p g <;> simp [hm]
theorem flt_len {α : Type} (p : α → Bool) (l : List α) (i : Nat) : ((l.take i).filter p).length ≤ i := by
  have := List.length_filter_le p (l.take i)
  rw [List.length_take] at this
  omega
theorem s_stable (f a b c : Int) (hf : 0 ≤ f ∧ f ≤ 1) (h : okL a b c = true) : Sp Tryz.prog 201 [vi f, aL a b c] (.v (vms (mtL f a b c))) [] := by
  have hlen := pmL_len f 81
  refine sp_of (m := no) mixed Tryz.func201 k201 ?_
  simp -dsimp [q]
  refine call_of (s_smats f hf) rfl (by simp) ?_
  try simp -dsimp
  try (first | exact fp_one (by decide) | refine fp_and (by decide) ?_)
  refine awp_it (false :: false :: false :: true :: false :: true :: true :: true :: []) (fun i : Nat => [(7, vi i)]) (fun i => [(2, .row 4 73 (ms (((pmL f 81).take i).filter fun m => keepL a b c m)))]) (fun i => i ≤ (pmL f 81).length) (fun i => (pmL f 81).length - i) 0 ?_
  intro s0 e
  simp -dsimp at e
  subst e
  refine ⟨?_, ?_⟩
  · simp
  intro i hi
  have hfl := flt_len (fun m => keepL a b c m) (pmL f 81) i
  simp -dsimp [-Prod.forall, -Prod.exists]
  refine ⟨fun h5 => ⟨h5, fun m hm => ?_⟩, fun h5 => ?_⟩
  · have hpm := List.mem_of_getElem? hm
    obtain ⟨p, q', r, s⟩ := m
    obtain ⟨A', B', C', hk, w1⟩ := s_simage a b c p q' r s h (pm_facts hf ((pmL_mem hf _ _ _ _).1 hpm))
    have hsu := flt_succ (p := fun m => keepL a b c m) hm
    refine call_of (w1) rfl (by simp) ?_
    try simp -dsimp
    try (first | exact fp_one (by decide) | refine fp_and (by decide) ?_)
    refine ⟨?_, fun e => ?_⟩
    · rintro rfl rfl rfl
      refine ⟨h5, fun p1 p2 p3 p4 hm' => ?_⟩
      rw [hm] at hm'
      cases hm'
      refine ⟨⟨by omega, by omega⟩, i + 1, ⟨by rw [w64 (by omega) (by omega)]; simp, ?_⟩, by omega, by omega⟩
      rw [hsu, if_pos (hk.1 rfl)]
    · refine ⟨i + 1, ⟨by rw [w64 (by omega) (by omega)]; simp, ?_⟩, by omega, by omega⟩
      rw [hsu, if_neg (fun hkk => by
        have := hk.2 hkk
        simp only [Prod.mk.injEq] at this
        exact e this.1 this.2.1 this.2.2)]
  · rw [List.take_of_length_le h5]
def rwG (a b c : Int) (l : List Int) (m : M4) (k : Nat) : List G6 := (((cl a c).take k).filter fun v => kpB a b c l (m, v)).map fun v => (m, v)
theorem rwG_succ {a b c : Int} {l : List Int} {m : M4} {k : Nat} {v : Int × Int} (h : (cl a c)[k]? = some v) : rwG a b c l m (k + 1) = if kpB a b c l (m, v) = true then rwG a b c l m k ++ [(m, v)] else rwG a b c l m k := by
  unfold rwG
  rw [flt_succ h]
  cases hm : kpB a b c l (m, v) <;> simp
theorem rwG_len (a b c : Int) (l : List Int) (m : M4) (k : Nat) : (rwG a b c l m k).length ≤ k := by
  rw [rwG, List.length_map]
  exact flt_len _ _ _
def gpG (a b c : Int) (l : List Int) (M : List M4) : List G6 := M.flatMap fun m => rwG a b c l m (cl a c).length
theorem gpG_succ {a b c : Int} {l : List Int} {M : List M4} {i : Nat} {m : M4} (h : M[i]? = some m) : gpG a b c l (M.take (i + 1)) = gpG a b c l (M.take i) ++ rwG a b c l m (cl a c).length := by
  simp [gpG, List.take_add_one, h]
theorem gpG_len (a b c : Int) (l : List Int) : ∀ M : List M4, (gpG a b c l M).length ≤ M.length * (cl a c).length
  | [] => by simp [gpG]
  | m :: M => by
    have h1 := rwG_len a b c l m (cl a c).length
    have h2 := gpG_len a b c l M
    rw [show gpG a b c l (m :: M) = rwG a b c l m (cl a c).length ++ gpG a b c l M from rfl, List.length_append, List.length_cons, Nat.add_mul, Nat.one_mul]
    omega
theorem mt_small {f a b c : Int} {m : M4} (h : m ∈ mtL f a b c) : (m.1.natAbs ≤ 1 ∧ m.2.1.natAbs ≤ 1) ∧ m.2.2.1.natAbs ≤ 1 ∧ m.2.2.2.natAbs ≤ 1 := pmL_small (Nat.le_refl _) (List.mem_filter.1 h).1
theorem mt_G {f a b c : Int} {m : M4} (h : m ∈ mtL f a b c) {x y : Int} (ha : 1 ≤ a ∧ a ≤ 64) (hc : 1 ≤ c ∧ c ≤ 64) (k : (0 ≤ x ∧ x < a) ∧ 0 ≤ y ∧ y < c) : smallG (m, x, y) := by
  obtain ⟨h1, h2⟩ := mt_small h
  unfold smallG
  simp only
  omega
theorem s_group (f a b c : Int) (l : List Int) (hf : okP f a b c l = true) : Sp Tryz.prog 144 [aP f a b c l] (.sli 0) [.row 6 77 (gs (gpG a b c l (mtL f a b c)))] := by
  obtain ⟨h0, h2, h3, _⟩ := okP_spec.1 hf
  obtain ⟨ha, hc, hb, hac⟩ := okL_spec.1 h2
  have h1 := ac_pos ha.1 hc.1
  have hn := nat_n ha.1 hc.1 h3
  have hcl : (cl a c).length = l.length := by rw [cellsL_len, hn]
  have hM : (mtL f a b c).length ≤ 12 := Nat.le_trans (List.length_filter_le _ _) (pm_count f h0)
  refine sp_of (m := no) mixed Tryz.func144 k144 ?_
  simp -dsimp [q]
  refine call_of (s_lm f a b c h0 ha hb hc) rfl (by simp) ?_
  try simp -dsimp
  try (first | exact fp_one (by decide) | refine fp_and (by decide) ?_)
  refine awp_it (false :: true :: false :: true :: false :: false :: false :: false :: false :: false :: false :: false :: false :: true :: true :: true :: []) (fun i : Nat => [(15, vi i)]) (fun i => [(1, .row 6 77 (gs (gpG a b c l ((mtL f a b c).take i))))]) (fun i => i ≤ (mtL f a b c).length) (fun i => (mtL f a b c).length - i) 0 ?_
  intro s0 e
  simp -dsimp at e
  subst e
  refine ⟨?_, ?_⟩
  · simp [gpG]
  intro i hi
  have hgl := gpG_len a b c l ((mtL f a b c).take i)
  have hgl2 : ((mtL f a b c).take i).length * (cl a c).length ≤ 12 * 64 := Nat.mul_le_mul (by rw [List.length_take]; omega) (by omega)
  simp -dsimp [-Prod.forall, -Prod.exists]
  refine ⟨fun h5 => ⟨h5, fun m hm => ?_⟩, fun h5 => ?_⟩
  · have h5' : i < (mtL f a b c).length := h5
    have hgs := gpG_succ (a := a) (b := b) (c := c) (l := l) hm
    have hmm := List.mem_of_getElem? hm
    refine call_of (s_cells a b c ha hc) rfl (by simp) ?_
    try simp -dsimp
    try (first | exact fp_one (by decide) | refine fp_and (by decide) ?_)
    refine awp_it (false :: true :: false :: true :: false :: true :: false :: false :: false :: false :: false :: false :: false :: true :: true :: true :: false :: false :: false :: false :: false :: true :: true :: true :: []) (fun k : Nat => [(23, vi k)]) (fun k => [(1, .row 6 77 (gs (gpG a b c l ((mtL f a b c).take i) ++ rwG a b c l m k)))]) (fun k => k ≤ l.length) (fun k => l.length - k) 0 ?_
    intro s0 e
    simp -dsimp at e
    subst e
    refine ⟨?_, ?_⟩
    · simp [rwG]
    intro k hk
    have hrl := rwG_len a b c l m k
    simp -dsimp [cellsL_len, hn]
    refine ⟨fun h6 => ⟨by omega, fun x y hxy => ?_⟩, fun h6 => ?_⟩
    · obtain ⟨k1, _, _⟩ := cell_of ha.1 hc.1 hxy
      have w1 := s_keeps f a b c l (m, x, y) hf (mt_G hmm ha hc k1)
      have hsu := rwG_succ (b := b) (l := l) (m := m) hxy
      refine call_of (w1) rfl (by simp) ?_
      try simp -dsimp
      try (first | exact fp_one (by decide) | refine fp_and (by decide) ?_)
      refine ⟨fun e => ⟨⟨by omega, by omega⟩, k + 1, ⟨by rw [w64 (by omega) (by omega)]; simp, ?_⟩, by omega, by omega⟩, fun e => ⟨k + 1, ⟨by rw [w64 (by omega) (by omega)]; simp, ?_⟩, by omega, by omega⟩⟩
      · rw [hsu, if_pos e]
      · rw [hsu, if_neg (by rw [e]; simp)]
    · refine ⟨i + 1, ⟨by rw [w64 (by omega) (by omega)]; simp, ?_⟩, by omega, by omega⟩
      rw [hgs, show (cl a c).length = k by omega]
  · rw [List.take_of_length_le h5]
theorem s_sgroup (f a b c : Int) (l : List Int) (hf : okP f a b c l = true) : Sp Tryz.prog 138 [aP f a b c l] (.sli 0) [.row 6 77 (gs (gpG a b c l (mtL f a b c)))] := by
  obtain ⟨h0, h2, h3, _⟩ := okP_spec.1 hf
  obtain ⟨ha, hc, hb, hac⟩ := okL_spec.1 h2
  have h1 := ac_pos ha.1 hc.1
  have hn := nat_n ha.1 hc.1 h3
  have hcl : (cl a c).length = l.length := by rw [cellsL_len, hn]
  have hM : (mtL f a b c).length ≤ 12 := Nat.le_trans (List.length_filter_le _ _) (pm_count f h0)
  refine sp_of (m := no) mixed Tryz.func138 k138 ?_
  simp -dsimp [q]
  refine call_of (s_stable f a b c h0 h2) rfl (by simp) ?_
  try simp -dsimp
  try (first | exact fp_one (by decide) | refine fp_and (by decide) ?_)
  refine call_of (s_scells a b c ha hc) rfl (by simp) ?_
  try simp -dsimp
  try (first | exact fp_one (by decide) | refine fp_and (by decide) ?_)
  refine awp_it (false :: true :: false :: true :: true :: true :: true :: []) (fun i : Nat => [(6, vi i)]) (fun i => [(2, .row 6 77 (gs (gpG a b c l ((mtL f a b c).take i))))]) (fun i => i ≤ (mtL f a b c).length) (fun i => (mtL f a b c).length - i) 0 ?_
  intro s0 e
  simp -dsimp at e
  subst e
  refine ⟨?_, ?_⟩
  · simp [gpG]
  intro i hi
  have hgl := gpG_len a b c l ((mtL f a b c).take i)
  have hgl2 : ((mtL f a b c).take i).length * (cl a c).length ≤ 12 * 64 := Nat.mul_le_mul (by rw [List.length_take]; omega) (by omega)
  simp -dsimp [-Prod.forall, -Prod.exists]
  refine ⟨fun h5 => ?_, fun h5 => ?_⟩
  · obtain ⟨m, hm⟩ : ∃ m, (mtL f a b c)[i]? = some m := ⟨_, List.getElem?_eq_getElem h5⟩
    have hgs := gpG_succ (a := a) (b := b) (c := c) (l := l) hm
    have hmm := List.mem_of_getElem? hm
    refine awp_it (false :: true :: false :: true :: true :: true :: true :: true :: []) (fun k : Nat => [(7, vi k)]) (fun k => [(2, .row 6 77 (gs (gpG a b c l ((mtL f a b c).take i) ++ rwG a b c l m k)))]) (fun k => k ≤ l.length) (fun k => l.length - k) 0 ?_
    intro s0 e
    simp -dsimp at e
    subst e
    refine ⟨?_, ?_⟩
    · simp [rwG]
    intro k hk
    have hrl := rwG_len a b c l m k
    simp -dsimp [cellsL_len, hn, hm]
    refine ⟨fun h6 => ⟨by omega, ⟨by omega, fun x y hxy => ?_⟩⟩, fun h6 => ?_⟩
    · obtain ⟨k1, _, _⟩ := cell_of ha.1 hc.1 hxy
      have w1 := s_skeepsP f a b c l (m, x, y) hf (mt_G hmm ha hc k1)
      have hsu := rwG_succ (b := b) (l := l) (m := m) hxy
      refine ⟨by decide, ?_⟩
      refine call_of (w1) rfl (by simp) ?_
      try simp -dsimp
      try (first | exact fp_one (by decide) | refine fp_and (by decide) ?_)
      refine ⟨fun e => ⟨⟨by omega, by omega⟩, k + 1, ⟨by rw [w64 (by omega) (by omega)]; simp, ?_⟩, by omega, by omega⟩, fun e => ⟨k + 1, ⟨by rw [w64 (by omega) (by omega)]; simp, ?_⟩, by omega, by omega⟩⟩
      · rw [hsu, if_pos e]
      · rw [hsu, if_neg (by rw [e]; simp)]
    · refine ⟨i + 1, ⟨by rw [w64 (by omega) (by omega)]; simp, ?_⟩, by omega, by omega⟩
      rw [hgs, show (cl a c).length = k by omega]
  · rw [List.take_of_length_le h5]
theorem gp_small {f a b c : Int} {l : List Int} (ha : 1 ≤ a ∧ a ≤ 64) (hc : 1 ≤ c ∧ c ≤ 64) : ∀ g ∈ gpG a b c l (mtL f a b c), smallG g := by
  intro g hg
  obtain ⟨m, hm, hg⟩ := List.mem_flatMap.1 hg
  obtain ⟨v, hv, rfl⟩ := List.mem_map.1 hg
  obtain ⟨i, hi⟩ := List.mem_iff_getElem?.1 (List.mem_of_mem_take (List.mem_filter.1 hv).1)
  exact mt_G hm ha hc (cl_at ha.1 hc.1 hi).1
end Go.Proofs.YtigebbijogidlaaGreatDoorFv
namespace Go.Proofs.YtigebbijogidlaaGreatDoorFv
open Go Go.Proofs
set_option maxRecDepth 10000
set_option maxHeartbeats 2000000
theorem minL_take {x P : PV} {l : List PV} {k : Nat} (h : l[k]? = some P) : minL x (l.take (k + 1)) = minS (minL x (l.take k)) P := by
  rw [List.take_add_one, h]
  simp [minL, List.foldl_append]
theorem minL_len {x : PV} {l : List PV} {n : Nat} (hn : ∀ y ∈ x :: l, y.2.2.length = n) (k : Nat) : (minL x (l.take k)).2.2.length = n := by
  rcases List.mem_cons.1 (minL_mem (l.take k) x) with e | e
  · rw [e]; exact hn x (by simp)
  · exact hn _ (by simp [List.mem_of_mem_take e])
theorem s_minF (x : PV) (l : List PV) (n : Nat) (hn : ∀ y ∈ x :: l, y.2.2.length = n) (h1 : n ≤ 1048576) (h2 : l.length ≤ 1048576) : Sp Tryz.prog 127 [.v (vps (x :: l)), .fn 105 []] (aPV (minL x l)) [] := by
  refine sp_of (m := no) mixed Tryz.func127 k127 ?_
  simp -dsimp [q, ps, vp]
  refine ⟨by omega, fun _ => ?_⟩
  refine awp_it (true :: true :: false :: false :: true :: true :: true :: []) (fun s : Nat × PV => [(6, vi ((s.1 : Int) + 1))]) (fun s => [(1, .box [vi s.2.1, vi s.2.2.1.1, vi s.2.2.1.2.1, vi s.2.2.1.2.2, .v (vis s.2.2.2)])]) (fun s => s.1 ≤ l.length ∧ minL x (l.take s.1) = s.2) (fun s => l.length - s.1) (0, x) ?_
  intro s0 e
  simp -dsimp at e
  subst e
  refine ⟨?_, ?_⟩
  · simp [minL]
  rintro ⟨k, M⟩ ⟨hk, hM⟩
  simp only at hk hM
  have hMl := minL_len hn k
  rw [hM] at hMl
  by_cases hlt : k < l.length
  case neg =>
    have e : minL x l = M := by rw [← hM, List.take_of_length_le (by omega)]
    simp -dsimp [show ¬ (k < l.length) by omega, show ¬ ((k : Int) < l.length) by omega, e]
  obtain ⟨P, hP⟩ : ∃ P, l[k]? = some P := ⟨_, List.getElem?_eq_getElem hlt⟩
  have hPl := hn P (by simp [List.mem_of_getElem? hP])
  have ht := minL_take (x := x) hP
  rw [hM] at ht
  simp -dsimp [show ((k : Int) < l.length) by omega, -Prod.forall, -Prod.exists]
  refine ⟨by omega, fun P' hP' => ?_⟩
  rw [hP] at hP'
  cases hP'
  obtain ⟨kk, w, wl, _⟩ := s_cmpP P M ⟨fun _ => by omega, by omega, by omega⟩
  refine call_of (w) rfl (by simp) ?_
  try simp -dsimp
  try (first | exact fp_one (by decide) | refine fp_and (by decide) ?_)
  have e2 : IntKind.i64.wrap ((k : Int) + 1 + 1) = ((k + 1 : Nat) : Int) + 1 := by rw [w64 (by omega) (by omega)]; omega
  refine ⟨fun hlt2 => ⟨⟨by omega, hlt⟩, fun a1 a2 a3 a4 a5 hP2 => ?_⟩, fun hge => ?_⟩
  · rw [hP] at hP2
    cases hP2
    unfold minS at ht
    rw [if_pos (wl.1 hlt2)] at ht
    exact ⟨k + 1, _, _, _, _, _, ⟨e2, rfl, rfl, rfl, rfl, rfl⟩, ⟨by omega, ht⟩, by omega⟩
  · unfold minS at ht
    rw [if_neg (fun e => by have := wl.2 e; omega)] at ht
    exact ⟨k + 1, _, _, _, _, _, ⟨e2, rfl, rfl, rfl, rfl, rfl⟩, ⟨by omega, ht⟩, by omega⟩
theorem s_sleast (x : PV) (l : List PV) (n : Nat) (hn : ∀ y ∈ x :: l, y.2.2.length = n) (h1 : n ≤ 1048576) (h2 : l.length ≤ 1048576) : Sp Tryz.prog 72 [.v (vps (x :: l))] (aPV (minL x l)) [] := by
  refine sp_of (m := no) mixed Tryz.func72 k72 ?_
  simp -dsimp [q, ps, vp]
  refine awp_it (true :: false :: true :: true :: true :: []) (fun s : Nat × PV => [(4, vi ((s.1 : Int) + 1))]) (fun s => [(1, .box [vi s.2.1, vi s.2.2.1.1, vi s.2.2.1.2.1, vi s.2.2.1.2.2, .v (vis s.2.2.2)])]) (fun s => s.1 ≤ l.length ∧ minL x (l.take s.1) = s.2) (fun s => l.length - s.1) (0, x) ?_
  intro s0 e
  simp -dsimp at e
  subst e
  refine ⟨?_, ?_⟩
  · simp [minL]
  rintro ⟨k, M⟩ ⟨hk, hM⟩
  simp only at hk hM
  have hMl := minL_len hn k
  rw [hM] at hMl
  by_cases hlt : k < l.length
  case neg =>
    have e : minL x l = M := by rw [← hM, List.take_of_length_le (by omega)]
    simp -dsimp [show ¬ (k < l.length) by omega, show ¬ ((k : Int) < l.length) by omega, e]
  obtain ⟨P, hP⟩ : ∃ P, l[k]? = some P := ⟨_, List.getElem?_eq_getElem hlt⟩
  have hPl := hn P (by simp [List.mem_of_getElem? hP])
  have ht := minL_take (x := x) hP
  rw [hM] at ht
  simp -dsimp [show ((k : Int) < l.length) by omega, -Prod.forall, -Prod.exists]
  refine ⟨by omega, fun P' hP' => ?_⟩
  rw [hP] at hP'
  cases hP'
  have w := s_slessP P M ⟨fun _ => by omega, by omega, by omega⟩
  refine call_of (w) rfl (by simp) ?_
  try simp -dsimp
  try (first | exact fp_one (by decide) | refine fp_and (by decide) ?_)
  have e2 : IntKind.i64.wrap ((k : Int) + 1 + 1) = ((k + 1 : Nat) : Int) + 1 := by rw [w64 (by omega) (by omega)]; omega
  refine ⟨fun hlt2 => ⟨⟨by omega, hlt⟩, fun a1 a2 a3 a4 a5 hP2 => ?_⟩, fun hge => ?_⟩
  · rw [hP] at hP2
    cases hP2
    unfold minS at ht
    rw [if_pos (hlt2)] at ht
    exact ⟨k + 1, _, _, _, _, _, ⟨e2, rfl, rfl, rfl, rfl, rfl⟩, ⟨by omega, ht⟩, by omega⟩
  · unfold minS at ht
    rw [if_neg (by rw [hge]; simp)] at ht
    exact ⟨k + 1, _, _, _, _, _, ⟨e2, rfl, rfl, rfl, rfl, rfl⟩, ⟨by omega, ht⟩, by omega⟩
/-! images -/
def imgL (a b c : Int) (m : M4) : Int × Int × Int := lfin (lfoldS [(m.1 * a, m.2.2.1 * a), (m.1 * b + m.2.1 * c, m.2.2.1 * b + m.2.2.2 * c)])
theorem pm_pt {f : Int} (hf : 0 ≤ f ∧ f ≤ 1) {m : M4} (h : m ∈ pmL f 81) : ptM m := by
  obtain ⟨a, b, c, d⟩ := m
  obtain ⟨⟨h1, h2⟩, ⟨h3, h4⟩, h5⟩ := pm_facts hf ((pmL_mem hf a b c d).1 h)
  exact ⟨⟨⟨h1, h2⟩, h3, h4⟩, h5⟩
/-- All that the images need of one matrix. -/
structure One (f a b c : Int) (l : List Int) (m : M4) (A B C : Int) : Prop where
  I : Img a b c m A B C
  t : ∀ u v : Int, u.natAbs ≤ 1000 → v.natAbs ≤ 1000 → Sp Tryz.prog 109 [aP f a b c l, aG m.1 m.2.1 m.2.2.1 m.2.2.2 u v] (aP f A B C (mvP a b c A C m l (u, v) l.length)) []
  s : ∀ u v : Int, u.natAbs ≤ 1000 → v.natAbs ≤ 1000 → Sp Tryz.prog 100 [aP f a b c l, aG m.1 m.2.1 m.2.2.1 m.2.2.2 u v] (aP f A B C (mvP a b c A C m l (u, v) l.length)) []
theorem one_of {f a b c : Int} {l : List Int} (hf : okP f a b c l = true) {m : M4} (hm : ptM m) : ∃ A B C, One f a b c l m A B C := by
  obtain ⟨_, h2, h3, _⟩ := okP_spec.1 hf
  obtain ⟨A, B, C, I, w1, w2⟩ := lat_both h2 hm
  exact ⟨A, B, C, I, fun u v hu hv => s_pmove f a b c l m u v hf hm hu hv I w1, fun u v hu hv => s_spmove f a b c l m u v hf hm hu hv I w2⟩
theorem img_one {a b c : Int} : Img a b c (1, 0, 0, 1) a b c → True := fun _ => trivial
theorem mvP_ok {f a b c : Int} {l : List Int} (hf : okP f a b c l = true) {m : M4} {A B C : Int} (I : Img a b c m A B C) (t : Int × Int) : okP f A B C (mvP a b c A C m l t l.length) = true := by
  obtain ⟨h1, h2, h3, h4⟩ := okP_spec.1 hf
  refine okP_spec.2 ⟨h1, I.ok, ?_, fun n hn => ?_⟩
  · rw [mvP_len, cellsL_len, img_len I h3, Nat.min_self, h3, I.n]
  · obtain ⟨v, _, rfl⟩ := List.mem_map.1 hn
    unfold atV
    rw [List.getD_eq_getElem?_getD]
    cases he : l[(num a b c (iM m (v.1 - t.1, v.2 - t.2)).1 (iM m (v.1 - t.1, v.2 - t.2)).2).toNat]? with
    | none => simp
    | some z => exact h4 _ (List.mem_of_getElem? he)
end Go.Proofs.YtigebbijogidlaaGreatDoorFv
namespace Go.Proofs.YtigebbijogidlaaGreatDoorFv
open Go Go.Proofs
set_option maxRecDepth 10000
set_option maxHeartbeats 2000000
theorem mvI_mvP {A B C : Int} (hA : 1 ≤ A) (hC : 1 ≤ C) (l : List Int) (u v : Int) {n : Nat} (hn : A.toNat * C.toNat = n) : mvI A B C u v l n = mvP A B C A C (1, 0, 0, 1) l (u, v) n := by
  apply List.ext_getElem?
  intro j
  by_cases hj : j < n
  · have hg := cellsL_get C.toNat (by omega) A.toNat j (by omega)
    simp only [mvI, mvP, List.getElem?_map, List.getElem?_range hj, List.getElem?_take_of_lt hj, hg, Option.map_some]
    have e0 : ∀ w : Int × Int, iM (1, 0, 0, 1) w = w := fun w => by simp [iM, dtM]
    rw [e0]
    rfl
  · rw [List.getElem?_eq_none (by simp; omega), List.getElem?_eq_none (by rw [mvP_len]; omega)]
def imI (f a b c : Int) (l : List Int) (G : M4 → Int × Int × Int) (m : M4) : List PV := (cl (G m).1 (G m).2.2).map fun t => (f, G m, mvP a b c (G m).1 (G m).2.2 m l t l.length)
def imS (f a b c : Int) (l : List Int) (G : M4 → Int × Int × Int) (m : M4) : List PV := (cl a c).map fun v => (f, G m, mvP a b c (G m).1 (G m).2.2 m l (apM m v) l.length)
theorem fm_succ {α β : Type} {g : α → List β} {L : List α} {i : Nat} {m : α} (h : L[i]? = some m) : (L.take (i + 1)).flatMap g = (L.take i).flatMap g ++ g m := by
  rw [List.take_add_one, h]
  simp
theorem fm_len {α β : Type} {g : α → List β} {k : Nat} : ∀ (L : List α), (∀ m ∈ L, (g m).length ≤ k) → (L.flatMap g).length ≤ L.length * k
  | [], _ => by simp
  | m :: L, h => by
    have h1 := fm_len L (fun m hm => h m (by simp [hm]))
    have h2 := h m (by simp)
    rw [List.flatMap_cons, List.length_append, List.length_cons, Nat.add_mul, Nat.one_mul]
    omega
section
variable {f a b c : Int} {l : List Int} (hf : okP f a b c l = true) {G : M4 → Int × Int × Int} (hG : ∀ m, ptM m → One f a b c l m (G m).1 (G m).2.1 (G m).2.2)
include hf hG
theorem s_images {f0 a0 b0 c0 : Int} {l0 : List Int} (h0 : f0 = f) (wl : Sp Tryz.prog 89 [aP f0 a0 b0 c0 l0] (aP f a b c l) []) : Sp Tryz.prog 128 [aP f0 a0 b0 c0 l0] (.v (vps ((pmL f 81).flatMap (imI f a b c l G)))) [] := by
  obtain ⟨hfr, h2, h3, _⟩ := okP_spec.1 hf
  obtain ⟨ha, hc, hb, hac⟩ := okL_spec.1 h2
  subst h0
  have hn64 : l.length ≤ 64 := by omega
  have hml := pmL_len f0 81
  have hsz : ∀ m, m ∈ pmL f0 81 → (imI f0 a b c l G m).length = l.length := fun m hm => by
    have o := hG m (pm_pt hfr hm)
    rw [imI, List.length_map, cellsL_len, img_len o.I h3]
  have hpre : ∀ i, (((pmL f0 81).take i).flatMap (imI f0 a b c l G)).length ≤ 81 * 64 := fun i => by
    have := fm_len (g := imI f0 a b c l G) (k := 64) ((pmL f0 81).take i) (fun m hm => by rw [hsz m (List.mem_of_mem_take hm)]; exact hn64)
    have h5 : ((pmL f0 81).take i).length ≤ 81 := by rw [List.length_take]; omega
    have := Nat.mul_le_mul_right 64 h5
    omega
  refine sp_of (m := no) mixed Tryz.func128 k128 ?_
  simp -dsimp [q]
  refine call_of (wl) rfl (by simp) ?_
  try simp -dsimp
  try (first | exact fp_one (by decide) | refine fp_and (by decide) ?_)
  refine call_of (s_pm f0 hfr) rfl (by simp) ?_
  try simp -dsimp
  try (first | exact fp_one (by decide) | refine fp_and (by decide) ?_)
  refine awp_it (false :: false :: false :: true :: true :: false :: false :: false :: false :: false :: false :: false :: false :: false :: false :: true :: true :: true :: []) (fun i : Nat => [(17, vi i)]) (fun i => [(0, .row 5 28 (ps (((pmL f0 81).take i).flatMap (imI f0 a b c l G))))]) (fun i => i ≤ (pmL f0 81).length) (fun i => (pmL f0 81).length - i) 0 ?_
  intro s0 e
  simp -dsimp at e
  subst e
  refine ⟨?_, ?_⟩
  · simp
  intro i hi
  by_cases hlt : i < (pmL f0 81).length
  case neg =>
    have : i = (pmL f0 81).length := by omega
    subst this
    simp -dsimp
  obtain ⟨m, hm⟩ : ∃ m, (pmL f0 81)[i]? = some m := ⟨_, List.getElem?_eq_getElem hlt⟩
  have hmm := List.mem_of_getElem? hm
  have hpt := pm_pt hfr hmm
  have o := hG m hpt
  have hsuc := fm_succ (g := imI f0 a b c l G) hm
  have hsm := hsz m hmm
  have hp := hpre i
  have hgm : imI f0 a b c l G m = (cl (G m).1 (G m).2.2).map fun t => (f0, G m, mvP a b c (G m).1 (G m).2.2 m l t l.length) := rfl
  generalize G m = g at *
  obtain ⟨A1, B1, C1⟩ := g
  simp only at *
  generalize imI f0 a b c l G m = W at *
  obtain ⟨hA, hC, hB, hAC⟩ := okL_spec.1 o.I.ok
  have wt := o.t 0 0 (by decide) (by decide)
  have hok := mvP_ok hf o.I (0, 0)
  have hcomp : ∀ x y, mvI A1 B1 C1 x y (mvP a b c A1 C1 m l (0, 0) l.length) l.length = mvP a b c A1 C1 m l (x, y) l.length := fun x y => by
    rw [mvI_mvP hA.1 hC.1 _ _ _ (img_len o.I h3), mvP_comp h2 hpt o.I h3]
  have hl0 : (mvP a b c A1 C1 m l (0, 0) l.length).length = l.length := by rw [mvP_len, cellsL_len, img_len o.I h3, Nat.min_self]
  generalize mvP a b c A1 C1 m l (0, 0) l.length = l1 at *
  have hcl : (cl A1 C1).length = l.length := by rw [cellsL_len, img_len o.I h3]
  obtain ⟨m1, m2, m3, m4⟩ := m
  simp -dsimp [show ((i : Int) < (pmL f0 81).length) by omega, -Prod.forall, -Prod.exists]
  refine ⟨hlt, fun m' hm' => ?_⟩
  rw [hm] at hm'
  cases hm'
  refine call_of (wt) rfl (by simp) ?_
  try simp -dsimp
  try (first | exact fp_one (by decide) | refine fp_and (by decide) ?_)
  refine call_of (s_cells A1 B1 C1 hA hC) rfl (by simp) ?_
  try simp -dsimp
  try (first | exact fp_one (by decide) | refine fp_and (by decide) ?_)
  refine awp_it (false :: false :: false :: true :: true :: false :: false :: true :: false :: false :: false :: false :: false :: false :: false :: true :: true :: true :: false :: false :: false :: false :: false :: false :: false :: false :: false :: true :: true :: true :: []) (fun j : Nat => [(29, vi j)]) (fun j => [(0, .row 5 28 (ps (((pmL f0 81).take i).flatMap (imI f0 a b c l G) ++ W.take j)))]) (fun j => j ≤ l.length) (fun j => l.length - j) 0 ?_
  intro s0 e
  simp -dsimp at e
  subst e
  refine ⟨?_, ?_⟩
  · simp
  intro j hj
  have hN := img_len o.I h3
  have hWt : (((pmL f0 81).take i).flatMap (imI f0 a b c l G) ++ W.take j).length ≤ 81 * 64 + 64 := by
    rw [List.length_append, List.length_take]; omega
  generalize hX : ((pmL f0 81).take i).flatMap (imI f0 a b c l G) = pre at *
  have hcomp' : ∀ x y : Int, (cellsL C1.toNat A1.toNat)[j]? = some (x, y) → pre ++ W.take (j + 1) = (pre ++ W.take j) ++ [(f0, (A1, B1, C1), mvI A1 B1 C1 x y l1 l.length)] := fun x y hv => by
    have hWj : W[j]? = some (f0, (A1, B1, C1), mvP a b c A1 C1 (m1, m2, m3, m4) l (x, y) l.length) := by rw [hgm, List.getElem?_map, hv]; rfl
    rw [List.take_add_one, hWj, List.append_assoc, hcomp]; rfl
  simp -dsimp [cellsL_len, hN]
  refine ⟨fun h5 => ?_, fun h5 => ?_⟩
  · refine ⟨by omega, fun x y hxy => ?_⟩
    obtain ⟨⟨k1, k2⟩, _, _⟩ := cell_of hA.1 hC.1 hxy
    have wm := s_move1 f0 A1 B1 C1 x y l1 hok (by omega) (by omega)
    have hnx := hcomp' x y hxy
    rw [hl0] at wm
    generalize mvI A1 B1 C1 x y l1 l.length = l2 at *
    refine call_of (s_unit) rfl (by simp) ?_
    try simp -dsimp
    try (first | exact fp_one (by decide) | refine fp_and (by decide) ?_)
    refine call_of (wm) rfl (by simp) ?_
    try simp -dsimp
    try (first | exact fp_one (by decide) | refine fp_and (by decide) ?_)
    rw [List.append_assoc] at hnx
    refine ⟨⟨by omega, by omega⟩, by decide, j + 1, ⟨by rw [w64 (by omega) (by omega)]; simp, (List.append_cancel_left hnx).symm⟩, by omega, by omega⟩
  · have : j = l.length := by omega
    subst this
    exact ⟨i + 1, ⟨by rw [w64 (by omega) (by omega)]; simp, by rw [hsuc, List.take_of_length_le (by omega)]⟩, by omega, by omega⟩
theorem s_simages {f0 a0 b0 c0 : Int} {l0 : List Int} (wl : Sp Tryz.prog 117 [aP f0 a0 b0 c0 l0] (aP f a b c l) []) : Sp Tryz.prog 73 [aP f0 a0 b0 c0 l0] (.v (vps ((pmL f 81).flatMap (imS f a b c l G)))) [] := by
  obtain ⟨hfr, h2, h3, _⟩ := okP_spec.1 hf
  obtain ⟨ha, hc, hb, hac⟩ := okL_spec.1 h2
  have hn64 : l.length ≤ 64 := by omega
  have hml := pmL_len f 81
  have hN := nat_n ha.1 hc.1 h3
  have hsz : ∀ m, (imS f a b c l G m).length = l.length := fun m => by rw [imS, List.length_map, cellsL_len, hN]
  have hpre : ∀ i, (((pmL f 81).take i).flatMap (imS f a b c l G)).length ≤ 81 * 64 := fun i => by
    have := fm_len (g := imS f a b c l G) (k := 64) ((pmL f 81).take i) (fun m hm => by rw [hsz m]; exact hn64)
    have h5 : ((pmL f 81).take i).length ≤ 81 := by rw [List.length_take]; omega
    have := Nat.mul_le_mul_right 64 h5
    omega
  refine sp_of (m := no) mixed Tryz.func73 k73 ?_
  simp -dsimp [q]
  refine call_of (wl) rfl (by simp) ?_
  try simp -dsimp
  try (first | exact fp_one (by decide) | refine fp_and (by decide) ?_)
  refine call_of (s_smats f hfr) rfl (by simp) ?_
  try simp -dsimp
  try (first | exact fp_one (by decide) | refine fp_and (by decide) ?_)
  refine call_of (s_scells a b c ha hc) rfl (by simp) ?_
  try simp -dsimp
  try (first | exact fp_one (by decide) | refine fp_and (by decide) ?_)
  refine awp_it (false :: false :: false :: true :: true :: true :: true :: true :: []) (fun i : Nat => [(7, vi i)]) (fun i => [(3, .row 5 28 (ps (((pmL f 81).take i).flatMap (imS f a b c l G))))]) (fun i => i ≤ (pmL f 81).length) (fun i => (pmL f 81).length - i) 0 ?_
  intro s0 e
  simp -dsimp at e
  subst e
  refine ⟨?_, ?_⟩
  · simp
  intro i hi
  by_cases hlt : i < (pmL f 81).length
  case neg =>
    have : i = (pmL f 81).length := by omega
    subst this
    simp -dsimp
  obtain ⟨m, hm⟩ : ∃ m, (pmL f 81)[i]? = some m := ⟨_, List.getElem?_eq_getElem hlt⟩
  have hmm := List.mem_of_getElem? hm
  have hpt := pm_pt hfr hmm
  have o := hG m hpt
  have hsuc := fm_succ (g := imS f a b c l G) hm
  have hsm := hsz m
  have hp := hpre i
  have hgm : imS f a b c l G m = (cl a c).map fun v => (f, G m, mvP a b c (G m).1 (G m).2.2 m l (apM m v) l.length) := rfl
  generalize G m = g at *
  obtain ⟨A1, B1, C1⟩ := g
  simp only at *
  generalize imS f a b c l G m = W at *
  have bd : ∀ x y : Int, _ → _ → _ := fun x y hx hy => ap_bd (x := x) (y := y) hpt.1 hx hy
  have hm1 : (m.1.natAbs ≤ 1000 ∧ m.2.1.natAbs ≤ 1000) ∧ m.2.2.1.natAbs ≤ 1000 ∧ m.2.2.2.natAbs ≤ 1000 := by
    obtain ⟨⟨⟨m1, m2⟩, m3, m4⟩, hd⟩ := hpt
    exact ⟨⟨by omega, by omega⟩, by omega, by omega⟩
  obtain ⟨m1, m2, m3, m4⟩ := m
  simp -dsimp [show ((i : Int) < (pmL f 81).length) by omega, -Prod.forall, -Prod.exists]
  refine awp_it (false :: false :: false :: true :: true :: true :: true :: true :: true :: []) (fun j : Nat => [(8, vi j)]) (fun j => [(3, .row 5 28 (ps (((pmL f 81).take i).flatMap (imS f a b c l G) ++ W.take j)))]) (fun j => j ≤ l.length) (fun j => l.length - j) 0 ?_
  intro s0 e
  simp -dsimp at e
  subst e
  refine ⟨?_, ?_⟩
  · simp
  intro j hj
  have hWt : (((pmL f 81).take i).flatMap (imS f a b c l G) ++ W.take j).length ≤ 81 * 64 + 64 := by
    rw [List.length_append, List.length_take]; omega
  generalize hX : ((pmL f 81).take i).flatMap (imS f a b c l G) = pre at *
  have hcomp' : ∀ x y : Int, (cellsL c.toNat a.toNat)[j]? = some (x, y) → pre ++ W.take (j + 1) = (pre ++ W.take j) ++ [(f, (A1, B1, C1), mvP a b c A1 C1 (m1, m2, m3, m4) l (m1 * x + m2 * y, m3 * x + m4 * y) l.length)] := fun x y hv => by
    have hWj : W[j]? = some (f, (A1, B1, C1), mvP a b c A1 C1 (m1, m2, m3, m4) l (apM (m1, m2, m3, m4) (x, y)) l.length) := by rw [hgm, List.getElem?_map, hv]; rfl
    rw [List.take_add_one, hWj, List.append_assoc]; rfl
  simp -dsimp [cellsL_len, hN, -Prod.forall, -Prod.exists]
  refine ⟨fun h5 => ?_, fun h5 => ?_⟩
  · refine ⟨hlt, fun m' hm' => ?_⟩
    rw [hm] at hm'
    cases hm'
    refine ⟨hlt, fun m' hm' => ?_⟩
    rw [hm] at hm'
    cases hm'
    refine ⟨h5, fun v hxy => ?_⟩
    obtain ⟨x, y⟩ := v
    obtain ⟨⟨k1, k2⟩, _, _⟩ := cell_of ha.1 hc.1 hxy
    have b0 := bd x y (by omega) (by omega)
    have wa := s_sapply m1 m2 m3 m4 x y hm1 ⟨by omega, by omega⟩
    have hnx := hcomp' x y hxy
    simp only at b0
    generalize m1 * x + m2 * y = X1 at *
    generalize m3 * x + m4 * y = Y1 at *
    have wm := o.s X1 Y1 (by omega) (by omega)
    generalize mvP a b c A1 C1 (m1, m2, m3, m4) l (X1, Y1) l.length = l2 at *
    refine call_of (wa) rfl (by simp) ?_
    try simp -dsimp
    try (first | exact fp_one (by decide) | refine fp_and (by decide) ?_)
    refine call_of (wm) rfl (by simp) ?_
    try simp -dsimp
    try (first | exact fp_one (by decide) | refine fp_and (by decide) ?_)
    rw [List.append_assoc] at hnx
    refine ⟨⟨by simp at hWt ⊢; omega, by simp at hWt ⊢; omega⟩, by decide, j + 1, ⟨by rw [w64 (by omega) (by omega)]; simp, (List.append_cancel_left hnx).symm⟩, by omega, by omega⟩
  · have : j = l.length := by omega
    subst this
    exact ⟨i + 1, ⟨by rw [w64 (by omega) (by omega)]; simp, by rw [hsuc, List.take_of_length_le (by omega)]⟩, by omega, by omega⟩
end
def okPV (P : PV) : Bool := okP P.1 P.2.1.1 P.2.1.2.1 P.2.1.2.2 P.2.2
theorem unit_mem (f : Int) (hf : 0 ≤ f ∧ f ≤ 1) : (1, 0, 0, 1) ∈ pmL f 81 := by
  rw [pmL_mem hf]
  rcases (by omega : f = 0 ∨ f = 1) with rfl | rfl <;> decide
theorem cl_ne {a c : Int} (ha : 1 ≤ a) (hc : 1 ≤ c) : (0, 0) ∈ cl a c := by
  have := rdV_mem (a := a) (b := 0) (c := c) ha hc (0, 0)
  simpa [rdV, redX] using this
theorem canon_both {f a b c : Int} {l : List Int} (hf : okP f a b c l = true) : ∃ P : PV, P.1 = f ∧ okPV P = true ∧ Sp Tryz.prog 80 [aP f a b c l] (aPV P) [] ∧ ∃ L, Sp Tryz.prog 73 [aP f a b c l] (.v L) [] ∧ Sp Tryz.prog 72 [.v L] (aPV P) [] := by
  obtain ⟨a', b', c', l', hf', wl1, wl2⟩ := lean_both hf
  obtain ⟨hfr, h2, h3, _⟩ := okP_spec.1 hf'
  obtain ⟨ha, hc, hb, hac⟩ := okL_spec.1 h2
  obtain ⟨G, hG⟩ : ∃ G : M4 → Int × Int × Int, ∀ m, ptM m → One f a' b' c' l' m (G m).1 (G m).2.1 (G m).2.2 := by
    classical
    refine ⟨fun m => if h : ptM m then ((one_of hf' h).choose, (one_of hf' h).choose_spec.choose, (one_of hf' h).choose_spec.choose_spec.choose) else (0, 0, 0), fun m hm => ?_⟩
    simp only [dif_pos hm]
    exact (one_of hf' hm).choose_spec.choose_spec.choose_spec
  have w1 := s_images hf' hG rfl wl1
  have w2 := s_simages hf' hG wl2
  -- the two lists have the same members
  have hset : ∀ y, y ∈ (pmL f 81).flatMap (imI f a' b' c' l' G) ↔ y ∈ (pmL f 81).flatMap (imS f a' b' c' l' G) := fun y => by
    simp only [List.mem_flatMap]
    refine exists_congr fun m => and_congr_right fun hm => ?_
    have hp := pm_pt hfr hm
    have e := fun z => same_set (m := m) h2 hp (hG m hp).I (l := l') l'.length z
    constructor
    · intro hy
      obtain ⟨t, ht, rfl⟩ := List.mem_map.1 hy
      obtain ⟨v, hv, he⟩ := List.mem_map.1 ((e _).1 (List.mem_map.2 ⟨t, ht, rfl⟩))
      exact List.mem_map.2 ⟨v, hv, by rw [he]⟩
    · intro hy
      obtain ⟨v, hv, rfl⟩ := List.mem_map.1 hy
      obtain ⟨t, ht, he⟩ := List.mem_map.1 ((e _).2 (List.mem_map.2 ⟨v, hv, rfl⟩))
      exact List.mem_map.2 ⟨t, ht, by rw [he]⟩
  have hlen : ∀ y ∈ (pmL f 81).flatMap (imI f a' b' c' l' G), y.2.2.length = l'.length ∧ y.1 = f ∧ okPV y = true := fun y hy => by
    obtain ⟨m, hm, hy⟩ := List.mem_flatMap.1 hy
    obtain ⟨t, ht, rfl⟩ := List.mem_map.1 hy
    have o := hG m (pm_pt hfr hm)
    exact ⟨by simp only; rw [mvP_len, cellsL_len, img_len o.I h3, Nat.min_self], rfl, mvP_ok hf' o.I t⟩
  have hsz1 : ((pmL f 81).flatMap (imI f a' b' c' l' G)).length ≤ 81 * 64 := by
    have := fm_len (g := imI f a' b' c' l' G) (k := 64) (pmL f 81) (fun m hm => by
      rw [imI, List.length_map, cellsL_len, img_len (hG m (pm_pt hfr hm)).I h3]; omega)
    have := Nat.mul_le_mul_right 64 (pmL_len f 81)
    omega
  have hsz2 : ((pmL f 81).flatMap (imS f a' b' c' l' G)).length ≤ 81 * 64 := by
    have := fm_len (g := imS f a' b' c' l' G) (k := 64) (pmL f 81) (fun m hm => by
      rw [imS, List.length_map, cellsL_len, nat_n ha.1 hc.1 h3]; omega)
    have := Nat.mul_le_mul_right 64 (pmL_len f 81)
    omega
  have hne : ∃ y, y ∈ (pmL f 81).flatMap (imS f a' b' c' l' G) := ⟨_, List.mem_flatMap.2 ⟨_, unit_mem f hfr, List.mem_map.2 ⟨_, cl_ne ha.1 hc.1, rfl⟩⟩⟩
  have hne1 : ∃ y, y ∈ (pmL f 81).flatMap (imI f a' b' c' l' G) := by
    obtain ⟨y, hy⟩ := hne
    exact ⟨y, (hset y).2 hy⟩
  generalize (pmL f 81).flatMap (imI f a' b' c' l' G) = LI at *
  generalize (pmL f 81).flatMap (imS f a' b' c' l' G) = LS at *
  cases LI with
  | nil => obtain ⟨y, hy⟩ := hne1; cases hy
  | cons x xs =>
    cases LS with
    | nil => obtain ⟨y, hy⟩ := hne; cases hy
    | cons x' xs' =>
      have hu := min_uniq (n := l'.length) hset (fun y hy => (hlen y hy).1)
      have hmem := minL_mem xs x
      have wm := s_minF x xs l'.length (fun y hy => (hlen y hy).1) (by omega) (by simp at hsz1; omega)
      have ws := s_sleast x' xs' l'.length (fun y hy => (hlen y ((hset y).2 hy)).1) (by omega) (by simp at hsz2; omega)
      rw [← hu] at ws
      refine ⟨minL x xs, (hlen _ hmem).2.1, (hlen _ hmem).2.2, ?_, _, w2, ws⟩
      refine sp_of (m := no) mixed Tryz.func80 k80 ?_
      simp -dsimp [q]
      refine call_of (w1) rfl (by simp) ?_
      try simp -dsimp
      try (first | exact fp_one (by decide) | refine fp_and (by decide) ?_)
      refine call_of (wm) rfl (by simp) ?_
      try simp -dsimp
      try (first | exact fp_one (by decide) | refine fp_and (by decide) ?_)
end Go.Proofs.YtigebbijogidlaaGreatDoorFv
namespace Go.Proofs.YtigebbijogidlaaGreatDoorFv
open Go Go.Proofs
set_option maxRecDepth 10000
set_option maxHeartbeats 2000000
abbrev aS (s : ByteArray) : A := .v (.str s)
abbrev En := ByteArray × PV
def ve (e : En) : V := .ag [.str e.1, .int .i64 e.2.1, .int .i64 e.2.2.1.1, .int .i64 e.2.2.1.2.1, .int .i64 e.2.2.1.2.2, vis e.2.2.2]
def es (l : List En) : List V := l.map ve
abbrev ves (l : List En) : V := .sl 6 (es l)
abbrev aE (e : En) : A := .v (.ag [.str e.1, .int .i64 e.2.1, .int .i64 e.2.2.1.1, .int .i64 e.2.2.1.2.1, .int .i64 e.2.2.1.2.2, vis e.2.2.2])
@[simp] theorem es_nil : es [] = [] := rfl
@[simp] theorem es_len (l : List En) : (es l).length = l.length := by simp [es]
@[simp] theorem es_get (l : List En) (n : Nat) (K : V → Prop) : fA ((es l)[n]?) K = ∀ e, l[n]? = some e → K (.ag [.str e.1, .int .i64 e.2.1, .int .i64 e.2.2.1.1, .int .i64 e.2.2.1.2.1, .int .i64 e.2.2.1.2.2, .sl 0 (is e.2.2.2)]) := by unfold es; exact fA_map
@[simp] theorem es_set (l : List En) (n : Nat) (s : ByteArray) (f a b c : Int) (k : List Int) : (es l).set n (.ag [.str s, .int .i64 f, .int .i64 a, .int .i64 b, .int .i64 c, .sl 0 (is k)]) = es (l.set n (s, f, (a, b, c), k)) := by simp [es, ve, List.map_set]
@[simp] theorem es_take (l : List En) (n : Nat) : (es l).take n = es (l.take n) := by simp [es, List.map_take]
@[simp] theorem es_rep (n : Nat) (s : ByteArray) (f a b c : Int) : List.replicate n (V.ag [.str s, .int .i64 f, .int .i64 a, .int .i64 b, .int .i64 c, .sl 0 []]) = es (List.replicate n (s, f, (a, b, c), [])) := by simp [es, ve]
theorem ve_inj (x y : En) (e : ve x = ve y) : x = y := by
  obtain ⟨s, f, ⟨a, b, c⟩, l⟩ := x
  obtain ⟨s', f', ⟨a', b', c'⟩, l'⟩ := y
  simp only [ve, V.ag.injEq, List.cons.injEq, V.int.injEq, V.str.injEq, V.sl.injEq, true_and, and_true] at e
  obtain ⟨rfl, rfl, rfl, rfl, rfl, h5⟩ := e
  simp at h5
  rw [h5]
@[simp] theorem es_inj (a b : List En) : es a = es b ↔ a = b := by
  constructor
  · exact fun h => (List.map_inj_right (fun x y e => ve_inj x y e)).1 h
  · rintro rfl; rfl
/-! what laws do with them -/
def szE (n : Int) (e : En) : Int := if n < e.1.size then -1 else if n - e.1.size < e.2.2.2.length then -1 else n - e.1.size - e.2.2.2.length
theorem s_szE1 (e : En) (n : Int) (h1 : e.1.size ≤ maxLen) (h2 : e.2.2.2.length ≤ maxLen) (hn : 0 ≤ n ∧ n ≤ 1048576) : Sp Tryz.prog 54 [aE e, vi n] (vi (szE n e)) [] := by
  refine sp_of (m := no) mixed Tryz.func54 k54 ?_
  rw [mLen] at h1
  unfold szE
  simp -dsimp [q]
  rw [w64 (by omega) (by omega)]
  refine ⟨fun h => fun h6 => by omega, fun h => ?_⟩
  rw [if_neg (by omega)]
  have w := s_szP e.2.1 e.2.2.1.1 e.2.2.1.2.1 e.2.2.1.2.2 e.2.2.2 (n - e.1.size) h2 ⟨by omega, by omega⟩
  refine call_of (w) rfl (by simp) ?_
  try simp -dsimp
  try (first | exact fp_one (by decide) | refine fp_and (by decide) ?_)
  by_cases h4 : n - (e.1.size : Int) < e.2.2.2.length
  · rw [if_pos h4]
    simp
    omega
  · rw [if_neg h4]
    intro h5
    omega
def szF (n : Int) : List En → Int
  | [] => n
  | e :: l => if szE n e < 0 then -1 else szF (szE n e) l
theorem szF_cons (n : Int) (e : En) (l : List En) : szF n (e :: l) = if szE n e < 0 then -1 else szF (szE n e) l := rfl
theorem szE_le {n : Int} {e : En} (h : ¬ szE n e < 0) : 0 ≤ szE n e ∧ szE n e ≤ n ∧ (e.1.size : Int) ≤ n ∧ (e.2.2.2.length : Int) ≤ n := by
  unfold szE at *
  split at h
  · omega
  · split at h
    · omega
    · rename_i h1 h2
      rw [if_neg h1, if_neg h2]
      omega
theorem szF_le : ∀ (l : List En) (n : Int), 0 ≤ n → 0 ≤ szF n l → ∀ e ∈ l, (e.1.size : Int) ≤ n ∧ (e.2.2.2.length : Int) ≤ n
  | [], _, _, _, _, he => by cases he
  | x :: l, n, hn, h, e, he => by
    unfold szF at h
    by_cases hx : szE n x < 0
    · rw [if_pos hx] at h; omega
    · rw [if_neg hx] at h
      obtain ⟨q1, q2, q3, q4⟩ := szE_le hx
      rcases List.mem_cons.1 he with rfl | he
      · exact ⟨q3, q4⟩
      · have := szF_le l _ q1 h e he
        omega
def wfE (e : En) : Prop := e.1.size ≤ maxLen ∧ e.2.2.2.length ≤ maxLen
theorem s_szES (l : List En) (n : Int) (h : l.length ≤ maxLen) (hw : ∀ e ∈ l, wfE e) (hn : 0 ≤ n ∧ n ≤ 1048576) : Sp Tryz.prog 11 [.v (ves l), vi n] (vi (if n < l.length then -1 else szF (n - l.length) l)) [] := by
  refine sp_of (m := no) mixed Tryz.func11 k11 ?_
  rw [mLen] at h
  simp -dsimp [q]
  rw [w64 (by omega) (by omega)]
  refine ⟨fun h1 => fun h2 => by omega, fun h1 => ?_⟩
  rw [if_neg (by omega)]
  refine awp_it (true :: true :: false :: false :: false :: true :: []) (fun s : Nat × Int => [(1, vi s.2), (5, vi s.1)]) (fun s => []) (fun s => s.1 ≤ l.length ∧ (0 ≤ s.2 ∧ s.2 ≤ 1048576) ∧ szF s.2 (l.drop s.1) = szF (n - l.length) l) (fun s => l.length - s.1) (0, n - l.length) ?_
  intro s0 e
  simp -dsimp at e
  subst e
  refine ⟨?_, ?_⟩
  · simp
    omega
  rintro ⟨i, k⟩ ⟨hi, hk, hs⟩
  simp only at hi hk hs
  by_cases hlt : i < l.length
  case neg =>
    rw [List.drop_of_length_le (by omega)] at hs
    simp -dsimp [show ¬ ((i : Int) < l.length) by omega, ← hs, szF]
  obtain ⟨e, he⟩ : ∃ e, l[i]? = some e := ⟨_, List.getElem?_eq_getElem hlt⟩
  have hwe := hw e (List.mem_of_getElem? he)
  have w := s_szE1 e k hwe.1 hwe.2 hk
  have hd : l.drop i = e :: l.drop (i + 1) := by
    rw [List.drop_eq_getElem_cons hlt, (List.getElem?_eq_some_iff.1 he).2]
  rw [hd, szF_cons] at hs
  have hle := szE_le (n := k) (e := e)
  generalize szE k e = r at *
  simp -dsimp [show ((i : Int) < l.length) by omega, -Prod.forall, -Prod.exists]
  intro e' he'
  rw [he] at he'
  cases he'
  refine call_of (w) rfl (by simp) ?_
  try simp -dsimp
  try (first | exact fp_one (by decide) | refine fp_and (by decide) ?_)
  by_cases hr : r < 0
  · rw [if_pos hr] at hs
    rw [← hs]
    simp [hr]
    omega
  · rw [if_neg hr] at hs
    have := hle hr
    refine ⟨fun h => absurd h hr, fun _ => ⟨i + 1, r, ⟨rfl, by rw [w64 (by omega) (by omega)]; simp⟩, ⟨by omega, ⟨by omega, by omega⟩, hs⟩, by omega⟩⟩
theorem s_toP' (f a b c : Int) (l : List Int) (hc : l.length ≤ 1048576) : Sp Tryz.prog 25 [aP f a b c l] (aP f a b c l) [] := by
  refine sp_of (m := no) mixed Tryz.func25 k25 ?_
  simp -dsimp [q]
  refine call_of (s_toL a b c) rfl (by simp) ?_
  try simp -dsimp
  try (first | exact fp_one (by decide) | refine fp_and (by decide) ?_)
  refine call_of (s_to l hc) rfl (by simp) ?_
  try simp -dsimp
  try (first | exact fp_one (by decide) | refine fp_and (by decide) ?_)
theorem s_toE (e : En) (hc : e.2.2.2.length ≤ 1048576) : Sp Tryz.prog 57 [aE e] (aE e) [] := by
  refine sp_of (m := no) mixed Tryz.func57 k57 ?_
  have w := s_toP' e.2.1 e.2.2.1.1 e.2.2.1.2.1 e.2.2.1.2.2 e.2.2.2 hc
  simp -dsimp [q]
  refine call_of (w) rfl (by simp) ?_
  try simp -dsimp
  try (first | exact fp_one (by decide) | refine fp_and (by decide) ?_)
theorem s_toES (l : List En) (h : l.length ≤ 1048576) (hc : ∀ e ∈ l, e.2.2.2.length ≤ 1048576) : Sp Tryz.prog 13 [.v (ves l)] (.sli 0) [.row 6 70 (es l)] := by
  refine sp_of (m := no) mixed Tryz.func13 k13 ?_
  simp -dsimp [q]
  refine ⟨⟨by omega, by omega⟩, ?_⟩
  refine awp_it (true :: false :: false :: true :: true :: []) (fun i : Nat => [(4, vi i)]) (fun i => [(0, .row 6 70 (es (l.take i ++ List.replicate (l.length - i) (⟨#[]⟩, 0, (0, 0, 0), []))))]) (fun i => i ≤ l.length) (fun i => l.length - i) 0 ?_
  intro s0 e
  simp -dsimp at e
  subst e
  refine ⟨?_, ?_⟩
  · simp
  intro i hi
  simp -dsimp [-Prod.forall, -Prod.exists]
  refine ⟨fun h1 => ⟨h1, fun g ha => ?_⟩, fun h1 => ?_⟩
  · refine call_of (s_toE g (hc g (List.mem_of_getElem? ha))) rfl (by simp) ?_
    try simp -dsimp
    try (first | exact fp_one (by decide) | refine fp_and (by decide) ?_)
    refine ⟨by omega, by omega, i + 1, ⟨by rw [w64 (by omega) (by omega)]; simp, ?_⟩, by omega, by omega⟩
    exact fill_set ha
  · have : i = l.length := by omega
    subst this
    simp
theorem s_eqE (x y : En) (hl : x.2.2.2.length ≤ 1048576) : Sp Tryz.prog 62 [aE x, aE y] (vb (decide (x = y))) [] := by
  have w := s_eqP x.2.1 x.2.2.1.1 x.2.2.1.2.1 x.2.2.1.2.2 x.2.2.2 y.2.1 y.2.2.1.1 y.2.2.1.2.1 y.2.2.1.2.2 y.2.2.2 hl
  have e : decide (x = y) = (decide (x.1 = y.1) && decide (x.2.1 = y.2.1 ∧ (x.2.2.1.1 = y.2.2.1.1 ∧ x.2.2.1.2.1 = y.2.2.1.2.1 ∧ x.2.2.1.2.2 = y.2.2.1.2.2) ∧ x.2.2.2 = y.2.2.2)) := by
    obtain ⟨s, f, ⟨a, b, c⟩, l⟩ := x
    obtain ⟨s', f', ⟨a', b', c'⟩, l'⟩ := y
    rw [Bool.eq_iff_iff, Bool.and_eq_true, decide_eq_true_iff, decide_eq_true_iff, decide_eq_true_iff]
    simp [and_assoc]
  rw [e]
  generalize decide (x.2.1 = y.2.1 ∧ (x.2.2.1.1 = y.2.2.1.1 ∧ x.2.2.1.2.1 = y.2.2.1.2.1 ∧ x.2.2.1.2.2 = y.2.2.1.2.2) ∧ x.2.2.2 = y.2.2.2) = b2 at *
  by_cases h1 : x.1 = y.1
  · rw [decide_eq_true h1, Bool.true_and]
    refine sp_of (m := no) mixed Tryz.func62 k62 ?_
    simp -dsimp [q, h1]
    refine call_of (w) rfl (by simp) ?_
    try simp -dsimp
    try (first | exact fp_one (by decide) | refine fp_and (by decide) ?_)
  · rw [decide_eq_false h1, Bool.false_and]
    refine sp_of (m := no) mixed Tryz.func62 k62 ?_
    simp -dsimp [q, h1]
theorem s_eqES (xs ys : List En) (hx : xs.length ≤ 1048576) (hc : ∀ e ∈ xs, e.2.2.2.length ≤ 1048576) : Sp Tryz.prog 16 [.v (ves xs), .v (ves ys)] (vb (decide (xs = ys))) [] := by
  refine sp_of (m := no) mixed Tryz.func16 k16 ?_
  simp -dsimp [q]
  refine ⟨fun h e => h (by rw [e]), fun hl => ?_⟩
  refine awp_it (true :: true :: false :: false :: false :: true :: []) (fun i : Nat => [(5, vi i)]) (fun i => []) (fun i => i ≤ xs.length ∧ xs.take i = ys.take i) (fun i => xs.length - i) 0 ?_
  intro s0 e
  simp -dsimp at e
  subst e
  refine ⟨?_, ?_⟩
  · simp
  intro i hi
  simp -dsimp [-Prod.forall, -Prod.exists]
  obtain ⟨hi, ht⟩ := hi
  refine ⟨fun h1 => ⟨h1, fun g ha => ⟨by omega, fun h hb => ?_⟩⟩, fun h1 => ?_⟩
  · have w := s_eqE g h (hc g (List.mem_of_getElem? ha))
    by_cases e : g = h
    · subst e
      rw [decide_eq_true rfl] at w
      refine call_of (w) rfl (by simp) ?_
      try simp -dsimp
      try (first | exact fp_one (by decide) | refine fp_and (by decide) ?_)
      refine ⟨i + 1, by rw [w64 (by omega) (by omega)]; simp, ⟨by omega, ?_⟩, by omega⟩
      rw [List.take_add_one, List.take_add_one, ht, ha, hb]
    · rw [decide_eq_false e] at w
      refine call_of (w) rfl (by simp) ?_
      try simp -dsimp
      try (first | exact fp_one (by decide) | refine fp_and (by decide) ?_)
      rintro rfl
      rw [ha] at hb
      cases hb
      exact e rfl
  · have h2 : i = xs.length := by omega
    subst h2
    rw [List.take_length, List.take_of_length_le (by omega)] at ht
    exact ht
end Go.Proofs.YtigebbijogidlaaGreatDoorFv
namespace Go.Proofs.YtigebbijogidlaaGreatDoorFv
open Go Go.Proofs
set_option maxRecDepth 10000
set_option maxHeartbeats 2000000
def isAz (b : UInt8) : Bool := List.contains letrs.data.toList b
theorem isAz_nat : ∀ n, n < 256 → (isAz (UInt8.ofNat n) = true ↔ 97 ≤ n ∧ n ≤ 122) := by
  have h : (List.range 256).all (fun n => isAz (UInt8.ofNat n) == decide (97 ≤ n ∧ n ≤ 122)) = true := by decide +kernel
  intro n hn
  have := List.all_eq_true.1 h n (List.mem_range.2 hn)
  rw [beq_iff_eq] at this
  rw [this, decide_eq_true_iff]
theorem isAz_iff (b : UInt8) : isAz b = true ↔ 97 ≤ b.toNat ∧ b.toNat ≤ 122 := by
  have := isAz_nat b.toNat b.toNat_lt
  rwa [UInt8.ofNat_toNat] at this
theorem ba_get (s : ByteArray) (n : Nat) : s[n]? = s.data.toList[n]? := by
  by_cases h : n < s.size
  · rw [Lib.data_getElem? s n h, getElem?_pos s n h]
  · rw [getElem?_neg s n h, List.getElem?_eq_none (by rw [← Lib.size_eq]; omega)]
@[simp] theorem fA_ba {s : ByteArray} {n : Nat} {K : UInt8 → Prop} : fA (s[n]?) K = ∀ a, s.data[n]? = some a → K a := by
  rw [ba_get, Array.getElem?_toList]
  rfl
theorem dw_nil (p : UInt8 → Bool) : ∀ l : List UInt8, l.dropWhile p = [] ↔ l.all p = true
  | [] => by simp
  | x :: l => by
    cases h : p x
    · rw [List.dropWhile_cons_of_neg (by rw [h]; simp)]; simp [h]
    · rw [List.dropWhile_cons_of_pos h, dw_nil p l]; simp [h]
theorem dw_all (p : UInt8 → Bool) : ∀ l : List UInt8, (l.dropWhile p).all p = l.all p
  | [] => rfl
  | x :: l => by
    cases h : p x
    · rw [List.dropWhile_cons_of_neg (by rw [h]; simp)]
    · rw [List.dropWhile_cons_of_pos h, dw_all p l, List.all_cons, h, Bool.true_and]
theorem trim_all (l : List UInt8) : Lib.trimS l letrs.data.toList = [] ↔ l.all isAz = true := by
  show List.dropWhile isAz (List.dropWhile isAz l.reverse).reverse = [] ↔ _
  rw [dw_nil, List.all_reverse, dw_all, List.all_reverse]
theorem ba_empty {l : List UInt8} : (⟨l.toArray⟩ : ByteArray) = ⟨#[]⟩ ↔ l = [] := by
  constructor
  · intro h
    have := congrArg (fun t : ByteArray => t.data.toList) h
    simpa using this
  · rintro rfl; rfl
def okN (s : ByteArray) : Bool := decide (1 ≤ s.size ∧ s.size ≤ 12) && s.data.toList.all isAz
theorem okN_iff {s : ByteArray} : okN s = true ↔ (1 ≤ s.size ∧ s.size ≤ 12) ∧ s.data.toList.all isAz = true := by
  unfold okN
  rw [Bool.and_eq_true, decide_eq_true_iff]
theorem okN_f {s : ByteArray} (h : ¬ ((1 ≤ s.size ∧ s.size ≤ 12) ∧ s.data.toList.all isAz = true)) : okN s = false := by
  cases hb : okN s with
  | false => rfl
  | true => exact absurd (okN_iff.1 hb) h
theorem s_isN (s : ByteArray) (hs : s.size ≤ 9223372036854775807) : Sp Tryz.prog 79 [aS s] (vb (okN s)) [] := by
  have w1 := s_trim s hs
  have e := trim_all s.data.toList
  refine sp_of (m := no) mixed Tryz.func79 k79 ?_
  simp -dsimp [q]
  refine ⟨fun h1 => ⟨fun h2 => ?_, fun h2 => okN_f (fun h => by omega)⟩, fun h1 => okN_f (fun h => by omega)⟩
  refine call_of (w1) rfl (by simp) ?_
  try simp -dsimp
  try (first | exact fp_one (by decide) | refine fp_and (by decide) ?_)
  have h3 : okN s = true ↔ Lib.trimS s.data.toList letrs.data.toList = [] := by
    rw [okN_iff, e]
    exact ⟨fun h => h.2, fun h => ⟨⟨by omega, by omega⟩, h⟩⟩
  cases ho : okN s with
  | true => exact decide_eq_true (h3.1 ho)
  | false => exact decide_eq_false (fun h => by rw [h3.2 h] at ho; cases ho)
theorem s_sisN (s : ByteArray) (hs : s.size ≤ 1048576) : Sp Tryz.prog 71 [aS s] (vb (okN s)) [] := by
  refine sp_of (m := no) mixed Tryz.func71 k71 ?_
  simp -dsimp [q]
  refine awp_it (true :: false :: false :: true :: []) (fun i : Nat => [(3, vi i)]) (fun i => []) (fun i => i ≤ s.size ∧ (s.data.toList.take i).all isAz = true) (fun i => s.size - i) 0 ?_
  intro s0 e
  simp -dsimp at e
  subst e
  refine ⟨?_, ?_⟩
  · simp
  rintro i ⟨hi, ha⟩
  have bad : ∀ x : UInt8, s.data[i]? = some x → isAz x = false → okN s = false := fun x hx hb => okN_f (fun h => by
    have hm : x ∈ s.data.toList := by rw [Array.mem_toList_iff]; exact Array.mem_of_getElem? hx
    rw [List.all_eq_true.1 h.2 x hm] at hb
    cases hb)
  have hsz := Lib.size_eq s
  simp -dsimp
  refine ⟨fun h1 => ⟨h1, fun x hx => ⟨fun h2 => ⟨h1, fun y hy => ?_⟩, fun h2 => bad x hx ?_⟩⟩, fun h1 => ?_⟩
  · rw [hx] at hy
    cases hy
    refine ⟨fun h3 => bad x hx ?_, fun h3 => ⟨i + 1, by rw [w64 (by omega) (by omega)]; simp, ⟨by omega, fun z hz => ?_⟩, by omega⟩⟩
    · cases hb : isAz x with
      | false => rfl
      | true => have := (isAz_iff x).1 hb; omega
    · rw [List.take_add_one, Array.getElem?_toList, hx] at hz
      rcases List.mem_append.1 hz with hz | hz
      · exact List.all_eq_true.1 ha z hz
      · simp only [Option.toList_some, List.mem_singleton] at hz
        rw [hz, isAz_iff]
        omega
  · cases hb : isAz x with
    | false => rfl
    | true => have := (isAz_iff x).1 hb; omega
  · rw [List.take_of_length_le (by omega)] at ha
    refine ⟨fun h2 => ?_, fun h2 => okN_f (fun h => by omega)⟩
    cases ho : okN s with
    | true => exact decide_eq_true (by have := (okN_iff.1 ho).1; omega)
    | false => exact decide_eq_false (fun h => by rw [okN_iff.2 ⟨⟨by omega, by omega⟩, ha⟩] at ho; cases ho)
def hasN (l : List En) (s : ByteArray) : Bool := l.any fun e => decide (e.1 = s)
theorem s_named1 (e : En) (s : ByteArray) : Sp Tryz.prog 113 [aE e, .fq [.str s]] (vb (decide (e.1 = s))) [] := by
  refine sp_of (m := no) mixed Tryz.func113 k113 ?_
  simp -dsimp [q]
theorem s_fiE (l : List En) (f : Nat) (cs : List A) (p : En → Bool) (h : l.length ≤ 1048576) (hc : cs.all A.shut = true) (hf : ∀ v ∈ l, Sp Tryz.prog f (aE v :: cs) (vb (p v)) []) : Sp Tryz.prog 112 [.v (ves l), .fn f cs] (vi (if l.any p = true then l.findIdx p else -1)) [] := by
  refine sp_of (m := no) mixed Tryz.func112 k112 ?_
  simp -dsimp [q, -Prod.forall, -Prod.exists]
  refine awp_it (true :: true :: false :: false :: false :: false :: false :: true :: true :: []) (fun i : Nat => [(8, vi i)]) (fun i => []) (fun i => i ≤ l.length ∧ ∀ x ∈ l.take i, p x = false) (fun i => l.length - i) 0 ?_
  intro s0 e
  simp -dsimp [hc] at e
  subst e
  refine ⟨?_, ?_⟩
  · simp [hc]
  rintro i ⟨hi, hi2⟩
  simp -dsimp [hc, -Prod.forall, -Prod.exists]
  refine ⟨fun h1 => ⟨h1, fun x ha => call_of (rd := []) (hf x (List.mem_of_getElem? ha)) (by simp [toArgs_shut hc]) (by simp) ?_⟩, fun h1 => ?_⟩
  · simp -dsimp [hc, -Prod.forall, -Prod.exists]
    obtain ⟨_, hal⟩ := List.getElem?_eq_some_iff.1 ha
    refine ⟨fun hp => ?_, fun hp => ⟨i + 1, by rw [w64 (by omega) (by omega)]; simp, ⟨by omega, fun x' hx => ?_⟩, by omega⟩⟩
    · rw [if_pos ⟨x, List.mem_of_getElem? ha, hp⟩, (List.findIdx_eq h1).2 ⟨by rw [hal]; exact hp, fun j hj => hi2 _ (List.mem_iff_getElem.2 ⟨j, by simp; omega, by simp⟩)⟩]
    · rw [List.take_add_one, ha] at hx
      rcases List.mem_append.1 hx with hx | hx
      · exact hi2 _ hx
      · simp only [Option.toList_some, List.mem_singleton] at hx; rw [hx]; exact hp
  · rw [List.take_of_length_le h1] at hi2
    exact hi2
def nmI (l : List En) (s : ByteArray) : Int := if hasN l s = true then (l.findIdx fun e => decide (e.1 = s)) else -1
theorem s_named (l : List En) (s : ByteArray) (h : l.length ≤ 1048576) : Sp Tryz.prog 58 [.v (ves l), aS s] (vi (nmI l s)) [] := by
  have w := s_fiE l 113 [.fq [.str s]] (fun e => decide (e.1 = s)) h rfl (fun e _ => s_named1 e s)
  rw [show (if (l.any fun e => decide (e.1 = s)) = true then ((l.findIdx fun e => decide (e.1 = s) : Nat) : Int) else -1) = nmI l s from rfl] at w
  refine sp_of (m := no) mixed Tryz.func58 k58 ?_
  simp -dsimp [q]
  refine call_of (w) rfl (by simp) ?_
  try simp -dsimp
  try (first | exact fp_one (by decide) | refine fp_and (by decide) ?_)
theorem s_sidx (l : List En) (s : ByteArray) (h : l.length ≤ 1048576) : Sp Tryz.prog 55 [.v (ves l), aS s] (vi (nmI l s)) [] := by
  refine sp_of (m := no) mixed Tryz.func55 k55 ?_
  simp -dsimp [q]
  refine awp_it (true :: true :: false :: false :: false :: true :: []) (fun i : Nat => [(5, vi i)]) (fun i => []) (fun i => i ≤ l.length ∧ ∀ x ∈ l.take i, ¬ x.1 = s) (fun i => l.length - i) 0 ?_
  intro s0 e
  simp -dsimp at e
  subst e
  refine ⟨?_, ?_⟩
  · simp
  rintro i ⟨hi, hi2⟩
  simp -dsimp [-Prod.forall, -Prod.exists]
  refine ⟨fun h1 => ⟨h1, fun e he => ⟨fun h2 => ?_, fun h2 => ⟨i + 1, by rw [w64 (by omega) (by omega)]; simp, ⟨by omega, fun x hx => ?_⟩, by omega⟩⟩⟩, fun h1 => ?_⟩
  · obtain ⟨_, hal⟩ := List.getElem?_eq_some_iff.1 he
    unfold nmI hasN
    rw [if_pos (List.any_eq_true.2 ⟨e, List.mem_of_getElem? he, decide_eq_true h2⟩), (List.findIdx_eq h1).2 ⟨by rw [hal]; exact decide_eq_true h2, fun j hj => decide_eq_false (hi2 _ (List.mem_iff_getElem.2 ⟨j, by simp; omega, by simp⟩))⟩]
  · rcases mem_take_succ he hx with hx | hx
    · exact hi2 x hx
    · rw [hx]; exact h2
  · rw [List.take_of_length_le h1] at hi2
    unfold nmI hasN
    rw [if_neg (by
      rw [List.any_eq_true]
      rintro ⟨x, hx, h⟩
      exact hi2 x hx (of_decide_eq_true h))]
theorem s_same (P Q : PV) (hl : P.2.2.length ≤ 1048576) : Sp Tryz.prog 104 [aPV P, aPV Q] (vb (decide (P = Q))) [] := by
  have w := s_equal P.2.2 Q.2.2 hl
  obtain ⟨f, ⟨a, b, c⟩, l⟩ := P
  obtain ⟨f', ⟨a', b', c'⟩, l'⟩ := Q
  simp only at w
  generalize hT : decide ((f, (a, b, c), l) = (f', (a', b', c'), l')) = T
  refine sp_of (m := no) mixed Tryz.func104 k104 ?_
  simp -dsimp [q]
  have no : ¬ (f = f' ∧ a = a' ∧ b = b' ∧ c = c' ∧ l = l') → T = false := fun h => by
    rw [← hT]
    refine decide_eq_false fun e => h ?_
    cases e
    exact ⟨rfl, rfl, rfl, rfl, rfl⟩
  refine ⟨fun h1 => ⟨fun h2 h3 h4 => ?_, fun h => no (fun e => h e.2.1 e.2.2.1 e.2.2.2.1)⟩, fun h => no (fun e => h e.1)⟩
  subst h1 h2 h3 h4
  have e : decide (l = l') = T := by
    rw [← hT, Bool.eq_iff_iff, decide_eq_true_iff, decide_eq_true_iff]
    simp
  rw [e] at w
  refine call_of (w) rfl (by simp) ?_
  try simp -dsimp
  try (first | exact fp_one (by decide) | refine fp_and (by decide) ?_)
theorem s_ssame2 (P Q : PV) (hl : P.2.2.length ≤ 1048576) : Sp Tryz.prog 75 [aPV P, aPV Q] (vb (decide (P = Q))) [] := by
  have w := s_ssameP P.1 P.2.1.1 P.2.1.2.1 P.2.1.2.2 P.2.2 Q.1 Q.2.1.1 Q.2.1.2.1 Q.2.1.2.2 Q.2.2 hl
  have e : decide (P.1 = Q.1 ∧ (P.2.1.1 = Q.2.1.1 ∧ P.2.1.2.1 = Q.2.1.2.1 ∧ P.2.1.2.2 = Q.2.1.2.2) ∧ P.2.2 = Q.2.2) = decide (P = Q) := by
    obtain ⟨f, ⟨a, b, c⟩, l⟩ := P
    obtain ⟨f', ⟨a', b', c'⟩, l'⟩ := Q
    rw [Bool.eq_iff_iff, decide_eq_true_iff, decide_eq_true_iff]
    simp [and_assoc]
  rwa [e] at w
open Classical in
noncomputable def canP (Q : PV) : PV := if h : okPV Q = true then (canon_both (f := Q.1) (a := Q.2.1.1) (b := Q.2.1.2.1) (c := Q.2.1.2.2) (l := Q.2.2) h).choose else Q
theorem canP_spec {Q : PV} (h : okPV Q = true) : (canP Q).1 = Q.1 ∧ okPV (canP Q) = true ∧ Sp Tryz.prog 80 [aPV Q] (aPV (canP Q)) [] ∧ ∃ L, Sp Tryz.prog 73 [aPV Q] (.v L) [] ∧ Sp Tryz.prog 72 [.v L] (aPV (canP Q)) [] := by
  unfold canP
  rw [dif_pos h]
  exact (canon_both (f := Q.1) (a := Q.2.1.1) (b := Q.2.1.2.1) (c := Q.2.1.2.2) (l := Q.2.2) h).choose_spec
end Go.Proofs.YtigebbijogidlaaGreatDoorFv
namespace Go.Proofs.YtigebbijogidlaaGreatDoorFv
open Go Go.Proofs
set_option maxRecDepth 10000
set_option maxHeartbeats 2000000
structure gdE (l : List En) (i : Nat) (e : En) : Prop where
  n : okN e.1 = true
  h : hasN (l.take i) e.1 = false
  p : okPV e.2 = true
  c : canP e.2 = e.2
  o : ∀ p, 0 < i → l[i - 1]? = some p → ltP p.2 e.2 = true
def catI (l : List En) (i : Nat) : Prop := ∀ j e, j < i → l[j]? = some e → gdE l j e
def isCat (l : List En) : Prop := l.length ≤ 30 ∧ catI l l.length
theorem catI_succ {l : List En} {i : Nat} {e : En} (h : catI l i) (he : l[i]? = some e) (g : gdE l i e) : catI l (i + 1) := fun j x hj hx => by
  rcases Nat.lt_succ_iff_lt_or_eq.1 hj with h1 | h1
  · exact h j x h1 hx
  · subst h1
    rw [he] at hx
    cases hx
    exact g
theorem cat_bad {l : List En} {i : Nat} {e : En} (he : l[i]? = some e) (g : ¬ gdE l i e) : cdec (isCat l) = false := cdec_f fun h => g (h.2 i e (List.getElem?_eq_some_iff.1 he).1 he)
theorem cat_done {l : List En} (h : catI l l.length) : cdec (isCat l) = decide ((l.length : Int) ≤ 30) := by
  by_cases h1 : l.length ≤ 30
  · rw [decide_eq_true (by omega)]; exact cdec_t ⟨h1, h⟩
  · rw [decide_eq_false (by omega)]; exact cdec_f fun h2 => h1 h2.1
theorem okPV_len {P : PV} (h : okPV P = true) : P.2.2.length ≤ 64 := by
  obtain ⟨_, h2, h3, _⟩ := okP_spec.1 h
  obtain ⟨_, _, _, hac⟩ := okL_spec.1 h2
  omega
theorem okPV_cmpb {P Q : PV} (h : okPV P = true) (k : okPV Q = true) : cmpb P Q := by
  refine ⟨fun e => ?_, by have := okPV_len h; omega, by have := okPV_len k; omega⟩
  obtain ⟨_, _, h3, _⟩ := okP_spec.1 h
  obtain ⟨_, _, k3, _⟩ := okP_spec.1 k
  rw [e] at h3
  omega
theorem nmI_neg {l : List En} {s : ByteArray} (h : hasN l s = false) : nmI l s = -1 := by unfold nmI; rw [h]; simp
theorem nmI_pos {l : List En} {s : ByteArray} (h : hasN l s = true) : 0 ≤ nmI l s := by unfold nmI; rw [if_pos h]; omega
theorem nmI_at {l : List En} {i : Nat} {e : En} (he : l[i]? = some e) : nmI l e.1 = i ↔ hasN (l.take i) e.1 = false := by
  obtain ⟨hi, hal⟩ := List.getElem?_eq_some_iff.1 he
  have hh : hasN l e.1 = true := List.any_eq_true.2 ⟨e, List.mem_of_getElem? he, decide_eq_true rfl⟩
  unfold nmI
  rw [if_pos hh]
  constructor
  · intro h
    have h2 : l.findIdx (fun x => decide (x.1 = e.1)) = i := by omega
    unfold hasN
    rw [List.any_eq_false]
    intro x hx
    obtain ⟨j, hj, rfl⟩ := List.mem_take_iff_getElem.1 hx
    have := List.not_of_lt_findIdx (p := fun x : En => decide (x.1 = e.1)) (xs := l) (i := j) (by omega)
    simpa using this
  · intro h
    have : l.findIdx (fun x => decide (x.1 = e.1)) = i := (List.findIdx_eq hi).2 ⟨by rw [hal]; simp, fun j hj => by
      have := List.any_eq_false.1 h _ (List.mem_iff_getElem.2 ⟨j, by simp; omega, List.getElem_take⟩)
      simpa using this⟩
    rw [this]
theorem s_isCat (l : List En) (h : l.length ≤ 1048576) (hw : ∀ e ∈ l, e.1.size ≤ 1048576 ∧ e.2.2.2.length ≤ 1048576) : Sp Tryz.prog 44 [.v (ves l)] (vb (cdec (isCat l))) [] := by
  refine sp_of (m := no) mixed Tryz.func44 k44 ?_
  simp -dsimp [q]
  refine awp_it (true :: false :: false :: false :: false :: true :: true :: true :: []) (fun i : Nat => [(7, vi i)]) (fun i => []) (fun i => i ≤ l.length ∧ catI l i) (fun i => l.length - i) 0 ?_
  intro s0 e
  simp -dsimp at e
  subst e
  refine ⟨?_, ?_⟩
  · simp [catI]
  rintro i ⟨hi, hc⟩
  by_cases hlt : i < l.length
  case neg =>
    have : i = l.length := by omega
    subst this
    rw [cat_done hc]
    simp -dsimp
  obtain ⟨e, he⟩ : ∃ e, l[i]? = some e := ⟨_, List.getElem?_eq_getElem hlt⟩
  have hwe := hw e (List.mem_of_getElem? he)
  simp -dsimp [show ((i : Int) < l.length) by omega, -Prod.forall, -Prod.exists]
  intro e' he'
  rw [he] at he'
  cases he'
  have w1 := s_isN e.1 (by omega)
  by_cases g1 : okN e.1 = true
  case neg =>
    rw [Bool.eq_false_iff.2 g1] at w1
    rw [cat_bad he (fun g => g1 g.n)]
    refine call_of (w1) rfl (by simp) ?_
    try simp -dsimp
    try (first | exact fp_one (by decide) | refine fp_and (by decide) ?_)
  rw [g1] at w1
  refine call_of (w1) rfl (by simp) ?_
  try simp -dsimp
  try (first | exact fp_one (by decide) | refine fp_and (by decide) ?_)
  refine ⟨hi, ?_⟩
  have w2 := s_named (l.take i) e.1 (by rw [List.length_take]; omega)
  by_cases g2 : hasN (l.take i) e.1 = false
  case neg =>
    have hk := nmI_pos (Bool.not_eq_false _ ▸ g2)
    rw [cat_bad he (fun g => g2 g.h)]
    generalize nmI (l.take i) e.1 = k at *
    refine call_of (w2) rfl (by simp) ?_
    try simp -dsimp
    try (first | exact fp_one (by decide) | refine fp_and (by decide) ?_)
    intro h
    omega
  rw [nmI_neg g2] at w2
  refine call_of (w2) rfl (by simp) ?_
  try simp -dsimp
  try (first | exact fp_one (by decide) | refine fp_and (by decide) ?_)
  have w3 := s_isP e.2.1 e.2.2.1.1 e.2.2.1.2.1 e.2.2.1.2.2 e.2.2.2 (by omega)
  rw [show okP e.2.1 e.2.2.1.1 e.2.2.1.2.1 e.2.2.1.2.2 e.2.2.2 = okPV e.2 from rfl] at w3
  by_cases g3 : okPV e.2 = true
  case neg =>
    rw [Bool.eq_false_iff.2 g3] at w3
    rw [cat_bad he (fun g => g3 g.p)]
    refine call_of (w3) rfl (by simp) ?_
    try simp -dsimp
    try (first | exact fp_one (by decide) | refine fp_and (by decide) ?_)
  rw [g3] at w3
  refine call_of (w3) rfl (by simp) ?_
  try simp -dsimp
  try (first | exact fp_one (by decide) | refine fp_and (by decide) ?_)
  obtain ⟨c1, c2, c3, _⟩ := canP_spec g3
  have c4 := okPV_len c2
  refine call_of (c3) rfl (by simp) ?_
  try simp -dsimp
  try (first | exact fp_one (by decide) | refine fp_and (by decide) ?_)
  have w5 := s_same (canP e.2) e.2 (by omega)
  by_cases g4 : canP e.2 = e.2
  case neg =>
    rw [decide_eq_false g4] at w5
    rw [cat_bad he (fun g => g4 g.c)]
    refine call_of (w5) rfl (by simp) ?_
    try simp -dsimp
    try (first | exact fp_one (by decide) | refine fp_and (by decide) ?_)
  rw [decide_eq_true g4] at w5
  refine call_of (w5) rfl (by simp) ?_
  try simp -dsimp
  try (first | exact fp_one (by decide) | refine fp_and (by decide) ?_)
  have nx : (∀ p, 0 < i → l[i - 1]? = some p → ltP p.2 e.2 = true) → catI l (i + 1) := fun ho => catI_succ hc he ⟨g1, g2, g3, g4, ho⟩
  have okp : ∀ p, 0 < i → l[i - 1]? = some p → okPV p.2 = true := fun p h0 hp => (hc (i - 1) p (by omega) hp).p
  refine ⟨fun h0 => ⟨by rw [w64 (by omega) (by omega)]; omega, fun s f a b c lq hp => ?_⟩, fun h0 => ⟨i + 1, by rw [w64 (by omega) (by omega)]; simp, ⟨by omega, nx (fun p h1 _ => by omega)⟩, by omega⟩⟩
  rw [w64 (by omega) (by omega), show ((i : Int) - 1).toNat = i - 1 by omega] at hp
  obtain ⟨kk, w6, k1, _⟩ := s_cmpP (f, (a, b, c), lq) e.2 (okPV_cmpb (okp _ h0 hp) g3)
  refine call_of (w6) rfl (by simp) ?_
  try simp -dsimp
  try (first | exact fp_one (by decide) | refine fp_and (by decide) ?_)
  refine ⟨fun hk => ?_, fun hk => ⟨i + 1, by rw [w64 (by omega) (by omega)]; simp, ⟨by omega, nx (fun p _ hp' => ?_)⟩, by omega⟩⟩
  · exact cdec_false.1 (cat_bad he (fun g => by have := k1.2 (g.o _ h0 hp); omega))
  · rw [hp] at hp'
    cases hp'
    exact k1.1 hk
theorem s_sisCat (l : List En) (h : l.length ≤ 1048576) (hw : ∀ e ∈ l, e.1.size ≤ 1048576 ∧ e.2.2.2.length ≤ 1048576) : Sp Tryz.prog 45 [.v (ves l)] (vb (cdec (isCat l))) [] := by
  refine sp_of (m := no) mixed Tryz.func45 k45 ?_
  simp -dsimp [q]
  refine awp_it (true :: false :: false :: true :: []) (fun i : Nat => [(3, vi i)]) (fun i => []) (fun i => i ≤ l.length ∧ catI l i) (fun i => l.length - i) 0 ?_
  intro s0 e
  simp -dsimp at e
  subst e
  refine ⟨?_, ?_⟩
  · simp [catI]
  rintro i ⟨hi, hc⟩
  by_cases hlt : i < l.length
  case neg =>
    have : i = l.length := by omega
    subst this
    rw [cat_done hc]
    simp -dsimp
  obtain ⟨e, he⟩ : ∃ e, l[i]? = some e := ⟨_, List.getElem?_eq_getElem hlt⟩
  have hwe := hw e (List.mem_of_getElem? he)
  simp -dsimp [show ((i : Int) < l.length) by omega, -Prod.forall, -Prod.exists]
  intro e' he'
  rw [he] at he'
  cases he'
  have w1 := s_sisN e.1 (by omega)
  by_cases g1 : okN e.1 = true
  case neg =>
    rw [Bool.eq_false_iff.2 g1] at w1
    rw [cat_bad he (fun g => g1 g.n)]
    refine call_of (w1) rfl (by simp) ?_
    try simp -dsimp
    try (first | exact fp_one (by decide) | refine fp_and (by decide) ?_)
  rw [g1] at w1
  refine call_of (w1) rfl (by simp) ?_
  try simp -dsimp
  try (first | exact fp_one (by decide) | refine fp_and (by decide) ?_)
  have w2 := s_sidx l e.1 h
  have hni := nmI_at he
  by_cases g2 : hasN (l.take i) e.1 = false
  case neg =>
    rw [cat_bad he (fun g => g2 g.h)]
    have hk : ¬ nmI l e.1 = i := fun h => g2 (hni.1 h)
    generalize nmI l e.1 = k at *
    refine call_of (w2) rfl (by simp) ?_
    try simp -dsimp
    try (first | exact fp_one (by decide) | refine fp_and (by decide) ?_)
    exact fun h => absurd h hk
  rw [hni.2 g2] at w2
  refine call_of (w2) rfl (by simp) ?_
  try simp -dsimp
  try (first | exact fp_one (by decide) | refine fp_and (by decide) ?_)
  have w3 := s_sisP e.2.1 e.2.2.1.1 e.2.2.1.2.1 e.2.2.1.2.2 e.2.2.2 (by omega)
  rw [show okP e.2.1 e.2.2.1.1 e.2.2.1.2.1 e.2.2.1.2.2 e.2.2.2 = okPV e.2 from rfl] at w3
  by_cases g3 : okPV e.2 = true
  case neg =>
    rw [Bool.eq_false_iff.2 g3] at w3
    rw [cat_bad he (fun g => g3 g.p)]
    refine call_of (w3) rfl (by simp) ?_
    try simp -dsimp
    try (first | exact fp_one (by decide) | refine fp_and (by decide) ?_)
  rw [g3] at w3
  refine call_of (w3) rfl (by simp) ?_
  try simp -dsimp
  try (first | exact fp_one (by decide) | refine fp_and (by decide) ?_)
  obtain ⟨c1, c2, _, L, c3, c5⟩ := canP_spec g3
  have c4 := okPV_len c2
  refine call_of (c3) rfl (by simp) ?_
  try simp -dsimp
  try (first | exact fp_one (by decide) | refine fp_and (by decide) ?_)
  refine call_of (c5) rfl (by simp) ?_
  try simp -dsimp
  try (first | exact fp_one (by decide) | refine fp_and (by decide) ?_)
  have w5 := s_ssame2 (canP e.2) e.2 (by omega)
  by_cases g4 : canP e.2 = e.2
  case neg =>
    rw [decide_eq_false g4] at w5
    rw [cat_bad he (fun g => g4 g.c)]
    refine call_of (w5) rfl (by simp) ?_
    try simp -dsimp
    try (first | exact fp_one (by decide) | refine fp_and (by decide) ?_)
  rw [decide_eq_true g4] at w5
  refine call_of (w5) rfl (by simp) ?_
  try simp -dsimp
  try (first | exact fp_one (by decide) | refine fp_and (by decide) ?_)
  have nx : (∀ p, 0 < i → l[i - 1]? = some p → ltP p.2 e.2 = true) → catI l (i + 1) := fun ho => catI_succ hc he ⟨g1, g2, g3, g4, ho⟩
  have okp : ∀ p, 0 < i → l[i - 1]? = some p → okPV p.2 = true := fun p h0 hp => (hc (i - 1) p (by omega) hp).p
  refine ⟨fun h0 => ⟨by rw [w64 (by omega) (by omega)]; omega, fun s f a b c lq hp => ?_⟩, fun h0 => ⟨i + 1, by rw [w64 (by omega) (by omega)]; simp, ⟨by omega, nx (fun p h1 _ => by omega)⟩, by omega⟩⟩
  rw [w64 (by omega) (by omega), show ((i : Int) - 1).toNat = i - 1 by omega] at hp
  have w6 := s_slessP (f, (a, b, c), lq) e.2 (okPV_cmpb (okp _ h0 hp) g3)
  cases hb : ltP (f, (a, b, c), lq) e.2 with
  | false =>
    rw [hb] at w6
    have hbad := cat_bad he (fun g => by have := g.o _ h0 hp; rw [hb] at this; cases this)
    refine call_of (w6) rfl (by simp) ?_
    try simp -dsimp
    try (first | exact fp_one (by decide) | refine fp_and (by decide) ?_)
    exact cdec_false.1 hbad
  | true =>
    rw [hb] at w6
    refine call_of (w6) rfl (by simp) ?_
    try simp -dsimp
    try (first | exact fp_one (by decide) | refine fp_and (by decide) ?_)
    refine ⟨i + 1, by rw [w64 (by omega) (by omega)]; simp, ⟨by omega, nx (fun p _ hp' => ?_)⟩, by omega⟩
    rw [hp] at hp'
    cases hp'
    exact hb
end Go.Proofs.YtigebbijogidlaaGreatDoorFv
namespace Go.Proofs
open Go.Shelf
shelf_lay LaysM.n173 Nm 173 at Tryz as Tryz.lays173
shelf_lay Lays.n156 Nm 156 at Tryz as Tryz.lays156
theorem Tryz.extra156 : Builder.Extra Tryz.prog Tryz.lays156_ren where
  sizeBuilder := by kernel_rfl
  liesBuilder := by kernel_rfl
  t5 := by kernel_rfl
  a5 := fun w => by kernel_rfl
  z5 := fun w => by kernel_rfl
  v5 := fun w => by kernel_rfl
  infoByte := by kernel_rfl
  cellsByte := by kernel_rfl
  sizeByte := by kernel_rfl
  neB5 := by decide
end Go.Proofs
namespace Go.Proofs.YtigebbijogidlaaGreatDoorFv
open Go Go.Proofs Go.RowKit Go.Shelf Go.Lib Go.Sort
set_option maxRecDepth 100000
set_option maxHeartbeats 2000000
theorem sp_below2 {P : Program} {f : Nat} {fn : Func} (hf : P.funcs[f]? = some fn) (hb : fn.body.isSome = true) (hn : fn.name ≠ "runtime.NumGoroutine") {az : List A} {r : V} {u : Value}
    (hr : ∀ S w, Rep S w r u) (hc : ∀ O S μ w us, Rl w O S (fun i => ([] : List Ck)[i]?) μ S w → ARs (fun i => ([] : List Ck)[i]?) μ S w az us → Calls P f us.toArray w fun e w' => e = .returned u ∧ Below w.heap.size w w') : Sp P f az (.v r) [] := by
  refine ⟨⟨fn, hf, hb, hn⟩, fun S w us' O μ R h => ?_⟩
  refine (hc O S μ w us' R h).mono fun e w' ⟨he, B⟩ => ⟨u, S, μ, he, ?_, ?_, hr S w'⟩
  · exact ⟨R.tb, B.os.trans R.os, B.tape.trans R.tape, B.output.trans R.output, Nat.le_trans R.size B.size, fun k hk ho => (B.block k hk).trans (R.keep k hk ho), R.sub, R.new, fun b hb => Nat.lt_of_lt_of_le (R.lt b hb) B.size, fun i => by simp [CR], fun i c hi => by simp at hi, fun i j c d hi => by simp at hi⟩
  · exact ⟨fun _ h => h, fun b hb => B.block b (R.lt b hb), fun i u h => by simp [AR] at h, fun i c hi => by simp at hi⟩
theorem tab_of {w : World} {O S S' : Nat → Prop} {D : Nat → Option Ck} {μ : Nat → Nat × Nat} (R : Rl w O S D μ S' w) : TabIs Tryz.prog w "internal/strconv.uint64pow10" .u64 pow10Tab := by
  obtain ⟨_, _, cs, t, z, h, e⟩ := R.tb _ (List.Mem.head _)
  have hg : Tryz.prog.globalNamed "internal/strconv.uint64pow10" = some 3 := by kernel_rfl
  unfold TabIs World.var?
  rw [hg]
  simp only [Option.bind_some]
  rw [h]
  exact congrArg some e
theorem below_grow {w : World} (k : Nat) (os : Array Obj) : Below w.heap.size w (grow (w.drewN k) os) := by
  refine (below_drewN (Below.refl _ _) k).trans ⟨rfl, rfl, rfl, by simp [grow], fun j hj => ?_⟩
  show (w.heap ++ os)[j]? = w.heap[j]?
  rw [Array.getElem?_append_left hj]
theorem s_fmt (n : Int) (h0 : -9223372036854775808 ≤ n) (h1 : n ≤ 9223372036854775807) : Sp Tryz.prog 257 [vi n, vi 10] (.v (.str ⟨(Lib.itoa n).toArray⟩)) [] := by
  refine sp_below2 Tryz.func257 (by kernel_rfl) (by decide) (fun S w => rfl) fun O S μ w us R h => ?_
  simp only [ARs, AR, Rep] at h
  obtain ⟨u, us, rfl, rfl, v, us2, rfl, rfl, rfl⟩ := h
  refine (Any.strconv_FormatInt_10 Tryz.lays173 n h0 h1 w (tab_of R)).mono ?_
  rintro e w' ⟨rfl, k, os, rfl⟩
  exact ⟨rfl, below_grow k os⟩
theorem repR_strs {S : Nat → Prop} {w : World} : ∀ {xs : List ByteArray} {us : List Value}, RepR S w 0 (xs.map V.str) us → us = xs.map Value.string
  | [], us, h => h
  | x :: xs, us, ⟨u, us', h1, h2, _, _, h5⟩ => by
    have : u = .string x := h2
    subst this
    rw [h1, repR_strs h5]
    rfl
theorem s_join (xs : List ByteArray) (sep : ByteArray) (hN : xs.length ≤ 140737488355328) (hlen : (Lib.join (xs.map (·.data.toList)) sep.data.toList).length ≤ 140737488355328) : Sp Tryz.prog 285 [.v (.sl 0 (xs.map V.str)), .v (.str sep)] (.v (.str ⟨(Lib.join (xs.map (·.data.toList)) sep.data.toList).toArray⟩)) [] := by
  refine sp_below2 Tryz.func285 (by kernel_rfl) (by decide) (fun S w => rfl) fun O S μ w us R h => ?_
  simp only [ARs, AR, Rep, List.length_map] at h
  obtain ⟨u, us, rfl, ⟨A0, c, rfl, hc1, hc2, hr⟩, v, us2, rfl, rfl, rfl⟩ := h
  by_cases hx : xs = []
  · subst hx
    exact (Any.strings_Join_none Tryz.lays156 Tryz.extra156 A0 c sep w).mono fun e w' ⟨he, hw⟩ => ⟨he, hw ▸ Below.refl _ _⟩
  obtain ⟨b, vs, rfl, h5, h7⟩ := hr.row 0 (by simpa using hx)
  have hvs := repR_strs h5
  subst hvs
  obtain ⟨bk, o, sp⟩ := b
  obtain ⟨x0, xs0, rfl⟩ : ∃ x0 xs0, xs = x0 :: xs0 := by
    cases xs with
    | nil => exact absurd rfl hx
    | cons x xs => exact ⟨x, xs, rfl⟩
  have h0 := h7 0 (.string x0) rfl
  have hsp : sp = none ∧ bk < w.heap.size := by
    simp only [Nat.zero_mul, Nat.add_zero, Addr.add, if_true, World.cell?] at h0
    split at h0
    · rename_i cs t z hh
      refine ⟨?_, (Array.getElem?_eq_some_iff.1 hh).1⟩
      cases sp with
      | none => rfl
      | some k => simp at h0
    · cases h0
  obtain ⟨rfl, hbk⟩ := hsp
  exact Any.strings_Join Tryz.lays156 Tryz.extra156 bk o c (x0 :: xs0) sep w (fun j x hj => by
    have := h7 j (.string x) (by rw [List.getElem?_map, hj]; rfl)
    rw [Nat.zero_mul, Nat.zero_add] at this
    unfold Addr.add at this
    split at this
    · rename_i e; subst e; exact this
    · exact this) hbk hN hc1 hlen
end Go.Proofs.YtigebbijogidlaaGreatDoorFv
namespace Go.Proofs.YtigebbijogidlaaGreatDoorFv
open Go Go.Proofs
set_option maxRecDepth 10000
set_option maxHeartbeats 2000000
abbrev aT (s : ByteArray) : A := .v (.str s)
def bst (l : List UInt8) : ByteArray := ⟨l.toArray⟩
@[simp] theorem bst_size (l : List UInt8) : (bst l).size = l.length := by simp [bst, ByteArray.size]
@[simp] theorem bst_app (a b : List UInt8) : bst a ++ bst b = bst (a ++ b) := by
  apply ByteArray.ext
  simp [bst, ByteArray.data_append]
@[simp] theorem bst_data (l : List UInt8) : (bst l).data.toList = l := by simp [bst]
theorem dec_len : ∀ n : Nat, (Lib.decDigits n).length ≤ n + 1 := by
  intro n
  induction n using Nat.strongRecOn with
  | _ n ih =>
    rw [Lib.decDigits]
    split
    · simp
    · rw [List.length_append]
      have := ih (n / 10) (by omega)
      simp only [List.length_singleton]
      omega
theorem s_text (n : Int) (h0 : -9223372036854775808 ≤ n) (h1 : n ≤ 9223372036854775807) : Sp Tryz.prog 205 [vi n] (aT (bst (Lib.itoa n))) [] := by
  refine sp_of (m := no) mixed Tryz.func205 k205 ?_
  simp -dsimp [q]
  refine call_of ((s_fmt n h0 h1 : Sp Tryz.prog _ [vi n, vi 10] (aT (bst (Lib.itoa n))) [])) rfl (by simp) ?_
  try simp -dsimp
  try (first | exact fp_one (by decide) | refine fp_and (by decide) ?_)
  try rfl
theorem s_sdec : ∀ n : Nat, n ≤ 1000000000000 → Sp Tryz.prog 245 [vi n] (aT (bst (Lib.decDigits n))) [] := by
  intro n
  induction n using Nat.strongRecOn with
  | _ n ih =>
    intro hn
    rw [Lib.decDigits]
    by_cases h : n < 10
    · rw [dif_pos h]
      have e1 : IntKind.i64.wrap (48 + (n : Int)) = 48 + n := w64 (by omega) (by omega)
      have e2 : IntKind.u8.wrap (48 + (n : Int)) = 48 + n := Int.emod_eq_of_lt (by omega) (by show (48 + (n : Int)) < 256; omega)
      generalize hT : bst [UInt8.ofNat (48 + n)] = T
      refine sp_of (m := no) mixed Tryz.func245 k245 ?_
      simp -dsimp [q, show ((n : Int) < 10) by omega, e1, e2, unBs]
      refine ⟨⟨by omega, by omega⟩, ?_⟩
      rw [← hT, show (48 + (n : Int)).toNat = 48 + n by omega]
      rfl
    · rw [dif_neg h]
      have w := ih (n / 10) (by omega) (by omega)
      have hl := dec_len (n / 10)
      have e0 : IntKind.i64.wrap ((n : Int) / 10) = ((n / 10 : Nat) : Int) := by rw [w64 (by omega) (by omega)]; omega
      have e4 : (n : Int).tmod 10 = ((n % 10 : Nat) : Int) := by rw [Int.tmod_eq_emod_of_nonneg (by omega)]; omega
      have e5 : IntKind.i64.wrap (48 + ((n % 10 : Nat) : Int)) = 48 + ((n % 10 : Nat) : Int) := w64 (by omega) (by omega)
      have e6 : (0 : Int) ≤ 48 + ((n % 10 : Nat) : Int) ∧ 48 + ((n % 10 : Nat) : Int) < 256 := by omega
      have e2 : IntKind.u8.wrap (48 + ((n % 10 : Nat) : Int)) = 48 + ((n % 10 : Nat) : Int) := Int.emod_eq_of_lt (by omega) (by show (48 + ((n % 10 : Nat) : Int)) < 256; omega)
      generalize hT : bst (Lib.decDigits (n / 10) ++ [UInt8.ofNat (48 + n % 10)]) = T
      generalize hD : Lib.decDigits (n / 10) = dd at *
      refine sp_of (m := no) mixed Tryz.func245 k245 ?_
      simp -dsimp [q, show ¬ ((n : Int) < 10) by omega]
      rw [e0]
      refine call_of (w) rfl (by simp) ?_
      try simp -dsimp
      try (first | exact fp_one (by decide) | refine fp_and (by decide) ?_)
      rw [e4, e5, e2]
      simp only [unBs, if_pos e6, Option.map_some]
      generalize hr : n % 10 = r at *
      simp -dsimp
      rw [← hT, show (48 + (r : Int)).toNat = 48 + r by omega]
      exact ⟨by show dd.length + 1 ≤ _; omega, by decide, bst_app dd [UInt8.ofNat (48 + r)]⟩
theorem itoa_nn {n : Int} (h : 0 ≤ n) : Lib.itoa n = Lib.decDigits n.toNat := by unfold Lib.itoa; rw [if_neg (by omega)]
theorem itoa_len {n : Int} (h : n.natAbs ≤ 1000000) : (Lib.itoa n).length ≤ 1000002 := by
  unfold Lib.itoa
  split
  · have := dec_len n.natAbs
    simp only [List.length_cons]
    omega
  · have := dec_len n.toNat
    omega
theorem s_snum (n : Int) (h : n.natAbs ≤ 1000000) : Sp Tryz.prog 189 [vi n] (aT (bst (Lib.itoa n))) [] := by
  refine sp_of (m := no) mixed Tryz.func189 k189 ?_
  unfold Lib.itoa
  by_cases hn : n < 0
  · have w := s_sdec n.natAbs (by omega)
    have hl := dec_len n.natAbs
    have e1 : IntKind.i64.wrap (0 - n) = (n.natAbs : Int) := by rw [w64 (by omega) (by omega)]; omega
    have e2 : IntKind.i64.wrap (-n) = (n.natAbs : Int) := by rw [w64 (by omega) (by omega)]; omega
    generalize hT : bst (if n < 0 then 45 :: Lib.decDigits n.natAbs else Lib.decDigits n.toNat) = T
    generalize Lib.decDigits n.natAbs = dd at *
    simp -dsimp [q, hn, e1, e2]
    refine call_of (w) rfl (by simp) ?_
    try simp -dsimp
    try (first | exact fp_one (by decide) | refine fp_and (by decide) ?_)
    exact ⟨by show 1 + dd.length ≤ _; omega, by rw [← hT, if_pos hn]; exact bst_app [45] dd⟩
  · have w := s_sdec n.toNat (by omega)
    rw [if_neg hn]
    rw [show ((n.toNat : Nat) : Int) = n by omega] at w
    simp -dsimp [q, hn]
    refine call_of (w) rfl (by simp) ?_
    try simp -dsimp
    try (first | exact fp_one (by decide) | refine fp_and (by decide) ?_)
/-! vectors -/
def vtx (x y : Int) : List UInt8 := Lib.itoa x ++ [44] ++ Lib.itoa y
def sts (l : List ByteArray) : List V := l.map V.str
@[simp] theorem sts_nil : sts [] = [] := rfl
@[simp] theorem sts_len (l : List ByteArray) : (sts l).length = l.length := by simp [sts]
@[simp] theorem sts_app (l : List ByteArray) (s : ByteArray) : sts l ++ [.str s] = sts (l ++ [s]) := by simp [sts]
def wds (l : List Int) : List ByteArray := l.map fun n => bst (Lib.itoa n)
theorem s_joined (l : List Int) (sep : ByteArray) (hl : l.length ≤ 1048576) (hw : ∀ n ∈ l, n.natAbs ≤ 1000000) (hj : (Lib.join (l.map Lib.itoa) sep.data.toList).length ≤ 140737488355328) : Sp Tryz.prog 246 [aT sep, .v (vis l)] (aT (bst (Lib.join (l.map Lib.itoa) sep.data.toList))) [] := by
  have ew : (wds l).map (·.data.toList) = l.map Lib.itoa := by simp [wds, Function.comp_def]
  have w3 := s_join (wds l) sep (by simp [wds]; omega) (by rw [ew]; exact hj)
  rw [ew] at w3
  have hlen : (wds l).length = l.length := by simp [wds]
  have hget : ∀ (i : Nat) n, l[i]? = some n → (wds l)[i]? = some (bst (Lib.itoa n)) := fun i n h => by simp [wds, h]
  generalize wds l = W at *
  generalize Lib.join (l.map Lib.itoa) sep.data.toList = v at *
  refine sp_of (m := no) mixed Tryz.func246 k246 ?_
  simp -dsimp [q]
  refine awp_it (true :: false :: false :: false :: false :: true :: false :: false :: false :: true :: true :: true :: []) (fun i : Nat => [(11, vi i)]) (fun i => [(0, .row 0 9 (sts (W.take i)))]) (fun i => i ≤ l.length) (fun i => l.length - i) 0 ?_
  intro s0 e
  simp -dsimp at e
  subst e
  refine ⟨?_, ?_⟩
  · simp
  intro i hi
  simp -dsimp
  refine ⟨fun h1 => ⟨h1, fun n hn => ?_⟩, fun h1 => ?_⟩
  · have hb := hw n (List.mem_of_getElem? hn)
    have w1 := s_text n (by omega) (by omega)
    have hg := hget i n hn
    have htl : (W.take i).length ≤ 1048576 := by rw [List.length_take]; omega
    refine call_of (w1) rfl (by simp) ?_
    try simp -dsimp
    try (first | exact fp_one (by decide) | refine fp_and (by decide) ?_)
    refine ⟨⟨by simp at htl ⊢; omega, by simp at htl ⊢; omega⟩, i + 1, ⟨by rw [w64 (by omega) (by omega)]; simp, ?_⟩, by omega, by omega⟩
    rw [List.take_add_one, hg]
    simp
  · have : i = l.length := by omega
    subst this
    rw [List.take_of_length_le (by omega)]
    refine call_of ((w3 : Sp Tryz.prog _ [.v (.sl 0 (sts W)), aT sep] (aT (bst v)) [])) rfl (by simp) ?_
    try simp -dsimp
    try (first | exact fp_one (by decide) | refine fp_and (by decide) ?_)
    try rfl
end Go.Proofs.YtigebbijogidlaaGreatDoorFv
namespace Go.Proofs.YtigebbijogidlaaGreatDoorFv
open Go Go.Proofs
set_option maxRecDepth 10000
set_option maxHeartbeats 2000000
def jnI (l : List Int) (sep : List UInt8) : List UInt8 := Lib.join (l.map Lib.itoa) sep
theorem jnI_snoc {l : List Int} {i : Nat} {n : Int} (sep : List UInt8) (h : l[i]? = some n) : jnI (l.take (i + 1)) sep = (if 0 < i then jnI (l.take i) sep ++ sep else jnI (l.take i) sep) ++ Lib.itoa n := by
  unfold jnI
  rw [List.take_add_one, h]
  simp only [Option.toList_some, List.map_append, List.map_cons, List.map_nil]
  cases hl : (l.take i).map Lib.itoa with
  | nil =>
    have : i = 0 ∨ l = [] := by
      have h2 := List.map_eq_nil_iff.1 hl
      rw [List.take_eq_nil_iff] at h2
      omega
    rcases this with rfl | rfl
    · simp [Lib.join, List.intercalate]
    · simp at h
  | cons x r =>
    have : 0 < i := by
      rcases Nat.eq_zero_or_pos i with rfl | h2
      · simp at hl
      · exact h2
    rw [if_pos this, List.cons_append, Lib.join_cons, Lib.join_cons]
    simp [Lib.joinTail]
theorem jnI_len {sep : List UInt8} {B : Nat} (hB : sep.length ≤ 1) : ∀ l : List Int, (∀ n ∈ l, (Lib.itoa n).length ≤ B) → (jnI l sep).length ≤ l.length * (B + 1)
  | [], _ => by simp [jnI, Lib.join, List.intercalate]
  | [x], h => by
    have := h x (by simp)
    simp [jnI, Lib.join, List.intercalate]
    omega
  | x :: y :: l, h => by
    have ih := jnI_len hB (y :: l) (fun n hn => h n (List.mem_cons_of_mem _ hn))
    have h0 := h x (by simp)
    have e : jnI (x :: y :: l) sep = Lib.itoa x ++ (sep ++ jnI (y :: l) sep) := by
      simp [jnI, Lib.join, List.intercalate]
    rw [e]
    simp only [List.length_append, List.length_cons] at ih ⊢
    have : (l.length + 1 + 1) * (B + 1) = (l.length + 1) * (B + 1) + (B + 1) := by rw [Nat.add_mul]; omega
    omega
theorem itoa_sm {n : Int} (h : 0 ≤ n ∧ n ≤ 99) : (Lib.itoa n).length ≤ 100 := by
  rw [itoa_nn h.1]
  have := dec_len n.toNat
  omega
theorem s_sjoin (l : List Int) (sep : List UInt8) (hl : l.length ≤ 1000) (hs : sep.length ≤ 1) (hw : ∀ n ∈ l, 0 ≤ n ∧ n ≤ 99) : Sp Tryz.prog 134 [.v (vis l), aT (bst sep)] (aT (bst (jnI l sep))) [] := by
  have hb : ∀ i : Nat, (jnI (l.take i) sep).length ≤ 101000 := fun i => by
    have h1 := jnI_len (B := 100) hs (l.take i) (fun n hn => itoa_sm (hw n (List.mem_of_mem_take hn)))
    have h2 : (l.take i).length ≤ 1000 := by rw [List.length_take]; omega
    have h3 : (l.take i).length * 101 ≤ 1000 * 101 := Nat.mul_le_mul_right _ h2
    omega
  refine sp_of (m := no) mixed Tryz.func134 k134 ?_
  simp -dsimp [q]
  refine awp_it (true :: true :: false :: false :: false :: true :: true :: []) (fun i : Nat => [(5, aT (bst (jnI (l.take i) sep))), (6, vi i)]) (fun i => []) (fun i => i ≤ l.length) (fun i => l.length - i) 0 ?_
  intro s0 e
  simp -dsimp at e
  subst e
  refine ⟨?_, ?_⟩
  · simp [jnI, Lib.join, List.intercalate]
    rfl
  intro i hi
  simp -dsimp
  have hbi := hb i
  refine ⟨fun h1 => ⟨fun h2 => ⟨by omega, h1, fun n hn => ?_⟩, fun h2 => ⟨h1, fun n hn => ?_⟩⟩, fun h1 => ?_⟩
  · have w := s_snum n (by have := hw n (List.mem_of_getElem? hn); omega)
    have hj := jnI_snoc sep hn
    rw [if_pos (by omega)] at hj
    have hin := itoa_sm (hw n (List.mem_of_getElem? hn))
    refine call_of (w) rfl (by simp) ?_
    try simp -dsimp
    try (first | exact fp_one (by decide) | refine fp_and (by decide) ?_)
    refine ⟨by omega, i + 1, ⟨?_, by rw [w64 (by omega) (by omega)]; simp⟩, by omega, by omega⟩
    rw [hj, List.append_assoc]
  · have w := s_snum n (by have := hw n (List.mem_of_getElem? hn); omega)
    have hj := jnI_snoc sep hn
    rw [if_neg (by omega)] at hj
    have hin := itoa_sm (hw n (List.mem_of_getElem? hn))
    refine call_of (w) rfl (by simp) ?_
    try simp -dsimp
    try (first | exact fp_one (by decide) | refine fp_and (by decide) ?_)
    refine ⟨by omega, i + 1, ⟨?_, by rw [w64 (by omega) (by omega)]; simp⟩, by omega, by omega⟩
    rw [hj]
  · rw [List.take_of_length_le h1]
theorem s_ijoin (l : List Int) (sep : List UInt8) (hl : l.length ≤ 1000) (hs : sep.length ≤ 1) (hw : ∀ n ∈ l, 0 ≤ n ∧ n ≤ 99) : Sp Tryz.prog 246 [aT (bst sep), .v (vis l)] (aT (bst (jnI l sep))) [] := by
  have h1 := jnI_len (B := 100) hs l (fun n hn => itoa_sm (hw n hn))
  have h3 : l.length * 101 ≤ 1000 * 101 := Nat.mul_le_mul_right _ hl
  have w := s_joined l (bst sep) (by omega) (fun n hn => by have := hw n hn; omega) (by rw [bst_data]; show (jnI l sep).length ≤ _; omega)
  rw [bst_data] at w
  exact w
def ltx (a b c : Int) : List UInt8 := jnI [a, b, c] [44]
theorem okL_sm {a b c : Int} (h : okL a b c = true) : ∀ n ∈ [a, b, c], 0 ≤ n ∧ n ≤ 99 := by
  obtain ⟨h1, h2, h3, _⟩ := okL_spec.1 h
  intro n hn
  simp at hn
  omega
theorem s_lat (a b c : Int) (h : okL a b c = true) : Sp Tryz.prog 190 [aL a b c] (aT (bst (ltx a b c))) [] := by
  have w := s_isL a b c
  rw [h] at w
  have w2 := s_ijoin [a, b, c] [44] (by simp) (by simp) (okL_sm h)
  unfold ltx
  generalize jnI [a, b, c] [44] = v at *
  refine sp_of (m := no) mixed Tryz.func190 k190 ?_
  simp -dsimp [q]
  refine call_of (w) rfl (by simp) ?_
  try simp -dsimp
  try (first | exact fp_one (by decide) | refine fp_and (by decide) ?_)
  refine call_of ((w2 : Sp Tryz.prog _ [aT ⟨#[44]⟩, .v (.sl 0 [.int .i64 a, .int .i64 b, .int .i64 c])] (aT (bst v)) [])) rfl (by simp) ?_
  try simp -dsimp
  try (first | exact fp_one (by decide) | refine fp_and (by decide) ?_)
theorem s_slat (a b c : Int) (h : okL a b c = true) : Sp Tryz.prog 133 [aL a b c] (aT (bst (ltx a b c))) [] := by
  have w := s_sisL a b c
  rw [h] at w
  have w2 := s_sjoin [a, b, c] [44] (by simp) (by simp) (okL_sm h)
  unfold ltx
  generalize jnI [a, b, c] [44] = v at *
  refine sp_of (m := no) mixed Tryz.func133 k133 ?_
  simp -dsimp [q]
  refine call_of (w) rfl (by simp) ?_
  try simp -dsimp
  try (first | exact fp_one (by decide) | refine fp_and (by decide) ?_)
  refine call_of ((w2 : Sp Tryz.prog _ [.v (.sl 0 [.int .i64 a, .int .i64 b, .int .i64 c]), aT ⟨#[44]⟩] (aT (bst v)) [])) rfl (by simp) ?_
  try simp -dsimp
  try (first | exact fp_one (by decide) | refine fp_and (by decide) ?_)
def ptx (P : PV) : List UInt8 := [if P.1 = 0 then 83 else 72] ++ [32] ++ ltx P.2.1.1 P.2.1.2.1 P.2.1.2.2 ++ [32] ++ jnI P.2.2 []
theorem ltx_len {a b c : Int} (h : okL a b c = true) : (ltx a b c).length ≤ 303 :=
  jnI_len (B := 100) (by simp) _ (fun n hn => itoa_sm (okL_sm h n hn))
theorem cols_sm {P : PV} (h : okPV P = true) : ∀ n ∈ P.2.2, 0 ≤ n ∧ n ≤ 99 := fun n hn => by
  obtain ⟨_, _, _, h4⟩ := okP_spec.1 h
  have := h4 n hn
  omega
theorem dgx_len {P : PV} (h : okPV P = true) : (jnI P.2.2 []).length ≤ 6464 := by
  have h1 := jnI_len (B := 100) (sep := []) (by simp) P.2.2 (fun n hn => itoa_sm (cols_sm h n hn))
  have h2 := okPV_len h
  have h3 : P.2.2.length * 101 ≤ 64 * 101 := Nat.mul_le_mul_right _ h2
  omega
theorem ptx_len {P : PV} (h : okPV P = true) : (ptx P).length ≤ 10000 := by
  have h1 := dgx_len h
  obtain ⟨_, h2, _, _⟩ := okP_spec.1 h
  have h3 := ltx_len h2
  simp only [ptx, List.length_append, List.length_singleton]
  omega
theorem sub_lett {f : Int} (h : 0 ≤ f ∧ f ≤ 1) : (⟨#[83, 72]⟩ : ByteArray).extract f.toNat (f + 1).toNat = bst [if f = 0 then 83 else 72] := by
  have : f = 0 ∨ f = 1 := by omega
  rcases this with rfl | rfl <;> rfl
theorem s_ptx (P : PV) (h : okPV P = true) : Sp Tryz.prog 135 [aPV P] (aT (bst (ptx P))) [] := by
  obtain ⟨h1, h2, _, _⟩ := okP_spec.1 h
  have w1 := s_lat _ _ _ h2
  have w2 := s_ijoin P.2.2 [] (by have := okPV_len h; omega) (by simp) (cols_sm h)
  have w3 : Sp Tryz.prog 191 [.v (vis P.2.2)] (aT (bst (jnI P.2.2 []))) [] := by
    generalize jnI P.2.2 [] = v at *
    refine sp_of (m := no) mixed Tryz.func191 k191 ?_
    simp -dsimp [q]
    refine call_of ((w2 : Sp Tryz.prog _ [aT ⟨#[]⟩, .v (vis P.2.2)] (aT (bst v)) [])) rfl (by simp) ?_
    try simp -dsimp
    try (first | exact fp_one (by decide) | refine fp_and (by decide) ?_)
  have l1 := ltx_len h2
  have l2 := dgx_len h
  have e1 : IntKind.i64.wrap (P.1 + 1) = P.1 + 1 := w64 (by omega) (by omega)
  have es := sub_lett h1
  have e32 : ∀ l, bst l ++ (⟨#[32]⟩ : ByteArray) = bst (l ++ [32]) := fun l => bst_app l [32]
  have s32 : (⟨#[32]⟩ : ByteArray).size = 1 := rfl
  have s83 : (⟨#[83, 72]⟩ : ByteArray).size = 2 := rfl
  unfold ptx
  generalize ltx P.2.1.1 P.2.1.2.1 P.2.1.2.2 = v1 at *
  generalize jnI P.2.2 [] = v2 at *
  generalize (if P.1 = 0 then (83 : UInt8) else 72) = lt at *
  refine sp_of (m := no) mixed Tryz.func135 k135 ?_
  simp -dsimp [q, e1, es, e32]
  refine ⟨⟨by omega, by omega, by rw [s83]; omega⟩, ?_⟩
  refine ⟨by rw [s32]; omega, ?_⟩
  refine call_of (w1) rfl (by simp) ?_
  try simp -dsimp
  try (first | exact fp_one (by decide) | refine fp_and (by decide) ?_)
  simp -dsimp [e32, s32]
  refine ⟨by omega, by omega, ?_⟩
  refine call_of (w3) rfl (by simp) ?_
  try simp -dsimp
  try (first | exact fp_one (by decide) | refine fp_and (by decide) ?_)
  try omega
theorem s_sptx (P : PV) (h : okPV P = true) : Sp Tryz.prog 83 [aPV P] (aT (bst (ptx P))) [] := by
  obtain ⟨h1, h2, _, _⟩ := okP_spec.1 h
  have w1 := s_slat _ _ _ h2
  have w2 := s_sjoin P.2.2 [] (by have := okPV_len h; omega) (by simp) (cols_sm h)
  have l1 := ltx_len h2
  have l2 := dgx_len h
  have e1 : IntKind.i64.wrap (P.1 + 1) = P.1 + 1 := w64 (by omega) (by omega)
  have es := sub_lett h1
  have e32 : ∀ l, bst l ++ (⟨#[32]⟩ : ByteArray) = bst (l ++ [32]) := fun l => bst_app l [32]
  have s32 : (⟨#[32]⟩ : ByteArray).size = 1 := rfl
  have s83 : (⟨#[83, 72]⟩ : ByteArray).size = 2 := rfl
  unfold ptx
  generalize ltx P.2.1.1 P.2.1.2.1 P.2.1.2.2 = v1 at *
  generalize jnI P.2.2 [] = v2 at *
  generalize (if P.1 = 0 then (83 : UInt8) else 72) = lt at *
  refine sp_of (m := no) mixed Tryz.func83 k83 ?_
  simp -dsimp [q, e1, es, e32]
  refine ⟨⟨by omega, by omega, by rw [s83]; omega⟩, ?_⟩
  refine ⟨by rw [s32]; omega, ?_⟩
  refine call_of (w1) rfl (by simp) ?_
  try simp -dsimp
  try (first | exact fp_one (by decide) | refine fp_and (by decide) ?_)
  simp -dsimp [e32, s32]
  refine ⟨by omega, by omega, ?_⟩
  refine call_of ((w2 : Sp Tryz.prog _ [.v (vis P.2.2), aT ⟨#[]⟩] (aT (bst v2)) [])) rfl (by simp) ?_
  try simp -dsimp
  try (first | exact fp_one (by decide) | refine fp_and (by decide) ?_)
  try omega
def cat1 (e : En) : ByteArray := e.1 ++ ⟨#[32]⟩ ++ bst (ptx e.2) ++ ⟨#[10]⟩
def ctx (l : List En) : Nat → ByteArray
  | 0 => ⟨#[]⟩
  | n + 1 => ctx l n ++ (match l[n]? with | some e => cat1 e | none => ⟨#[]⟩)
theorem ctx_succ {l : List En} {n : Nat} {e : En} (h : l[n]? = some e) : ctx l (n + 1) = ctx l n ++ cat1 e := by
  rw [ctx, h]
theorem cat_okP {l : List En} (h : isCat l) : ∀ e ∈ l, okPV e.2 = true ∧ okN e.1 = true := fun e he => by
  obtain ⟨i, hi, rfl⟩ := List.mem_iff_getElem.1 he
  have := h.2 i l[i] hi (List.getElem?_eq_getElem hi)
  exact ⟨this.p, this.n⟩
theorem cat1_size {e : En} (h : okPV e.2 = true) (hn : e.1.size ≤ 1048576) : (cat1 e).size ≤ 1058600 := by
  have := ptx_len h
  have s32 : (⟨#[32]⟩ : ByteArray).size = 1 := rfl
  have s10 : (⟨#[10]⟩ : ByteArray).size = 1 := rfl
  unfold cat1
  rw [ByteArray.size_append, ByteArray.size_append, ByteArray.size_append, bst_size]
  omega
theorem ctx_size {l : List En} (h : ∀ e ∈ l, okPV e.2 = true) (hn : ∀ e ∈ l, e.1.size ≤ 1048576) : ∀ n, (ctx l n).size ≤ 1058600 * n
  | 0 => by show (⟨#[]⟩ : ByteArray).size ≤ _; simp [ByteArray.size]
  | n + 1 => by
    have ih := ctx_size h hn n
    unfold ctx
    rw [ByteArray.size_append]
    cases hl : l[n]? with
    | none =>
      have : (⟨#[]⟩ : ByteArray).size = 0 := rfl
      simp only [this]
      omega
    | some e =>
      have := cat1_size (h e (List.mem_of_getElem? hl)) (hn e (List.mem_of_getElem? hl))
      simp only
      omega
theorem s_catT (l : List En) (hl : l.length ≤ 1048576) (h : ∀ e ∈ l, okPV e.2 = true) (hn : ∀ e ∈ l, e.1.size ≤ 1048576) : Sp Tryz.prog 84 [.v (ves l)] (aT (ctx l l.length)) [] := by
  have s32 : (⟨#[32]⟩ : ByteArray).size = 1 := rfl
  have s10 : (⟨#[10]⟩ : ByteArray).size = 1 := rfl
  have hz : ∀ i, i ≤ l.length → (ctx l i).size ≤ 1058600 * 1048576 := fun i hi => Nat.le_trans (ctx_size h hn i) (Nat.mul_le_mul_left _ (by omega))
  refine sp_of (m := no) mixed Tryz.func84 k84 ?_
  simp -dsimp [q]
  refine awp_it (false :: false :: false :: true :: false :: false :: true :: true :: true :: []) (fun i : Nat => [(3, aT (ctx l i)), (8, vi i)]) (fun i => []) (fun i => i ≤ l.length) (fun i => l.length - i) 0 ?_
  intro s0 e
  simp -dsimp at e
  subst e
  refine ⟨?_, ?_⟩
  · simp [ctx]
  intro i hi
  simp -dsimp [-Prod.forall, -Prod.exists]
  refine ⟨fun h1 => ⟨h1, fun e he => ?_⟩, fun h1 => ?_⟩
  · have hme := List.mem_of_getElem? he
    have w := s_ptx e.2 (h e hme)
    have hp := ptx_len (h e hme)
    have hs := hn e hme
    have hc := ctx_succ he
    have hzi := hz i hi
    unfold cat1 at hc
    generalize ptx e.2 = T at *
    refine ⟨by rw [s32]; omega, ?_⟩
    refine call_of (w) rfl (by simp) ?_
    try simp -dsimp
    try (first | exact fp_one (by decide) | refine fp_and (by decide) ?_)
    simp only [ByteArray.size_append, bst_size, s32, s10]
    refine ⟨by omega, by omega, by omega, i + 1, ⟨?_, by rw [w64 (by omega) (by omega)]; simp⟩, by omega, by omega⟩
    rw [hc]
  · have : i = l.length := by omega
    subst this
    try rfl
theorem s_icT (l : List En) (hl : l.length ≤ 1048576) (hw : ∀ e ∈ l, e.1.size ≤ 1048576 ∧ e.2.2.2.length ≤ 1048576) : Sp Tryz.prog 28 [.v (ves l)] (if cdec (isCat l) = true then .tu [aT (ctx l l.length), vi 0] else .tu [aT ⟨#[]⟩, vi 1]) [] := by
  have w := s_isCat l hl hw
  by_cases hc : isCat l
  · rw [cdec_t hc] at w ⊢
    rw [if_pos rfl]
    have w2 := s_catT l hl (fun e he => (cat_okP hc e he).1) (fun e he => (hw e he).1)
    refine sp_of (m := no) mixed Tryz.func28 k28 ?_
    simp -dsimp [q]
    refine call_of (w) rfl (by simp) ?_
    try simp -dsimp
    try (first | exact fp_one (by decide) | refine fp_and (by decide) ?_)
    refine call_of (w2) rfl (by simp) ?_
    try simp -dsimp
    try (first | exact fp_one (by decide) | refine fp_and (by decide) ?_)
  · rw [cdec_f hc] at w ⊢
    rw [if_neg (by decide)]
    refine sp_of (m := no) mixed Tryz.func28 k28 ?_
    simp -dsimp [q]
    refine call_of (w) rfl (by simp) ?_
    try simp -dsimp
    try (first | exact fp_one (by decide) | refine fp_and (by decide) ?_)
theorem s_scT (l : List En) (hl : l.length ≤ 1048576) (hw : ∀ e ∈ l, e.1.size ≤ 1048576 ∧ e.2.2.2.length ≤ 1048576) : Sp Tryz.prog 27 [.v (ves l)] (if cdec (isCat l) = true then .tu [aT (ctx l l.length), vi 0] else .tu [aT ⟨#[]⟩, vi 1]) [] := by
  have w := s_sisCat l hl hw
  by_cases hc : isCat l
  · rw [cdec_t hc] at w ⊢
    rw [if_pos rfl]
    have h : ∀ e ∈ l, okPV e.2 = true := fun e he => (cat_okP hc e he).1
    have hn : ∀ e ∈ l, e.1.size ≤ 1048576 := fun e he => (hw e he).1
    have s32 : (⟨#[32]⟩ : ByteArray).size = 1 := rfl
    have s10 : (⟨#[10]⟩ : ByteArray).size = 1 := rfl
    have hz : ∀ i, i ≤ l.length → (ctx l i).size ≤ 1058600 * 1048576 := fun i hi => Nat.le_trans (ctx_size h hn i) (Nat.mul_le_mul_left _ (by omega))
    clear hc
    refine sp_of (m := no) mixed Tryz.func27 k27 ?_
    simp -dsimp [q]
    refine call_of (w) rfl (by simp) ?_
    try simp -dsimp
    try (first | exact fp_one (by decide) | refine fp_and (by decide) ?_)
    refine awp_it (true :: false :: false :: false :: true :: true :: []) (fun i : Nat => [(4, aT (ctx l i)), (5, vi i)]) (fun i => []) (fun i => i ≤ l.length) (fun i => l.length - i) 0 ?_
    intro s0 e
    simp -dsimp at e
    subst e
    refine ⟨?_, ?_⟩
    · simp [ctx]
    intro i hi
    simp -dsimp [-Prod.forall, -Prod.exists]
    refine ⟨fun h1 => ⟨h1, fun e he => ?_⟩, fun h1 => ?_⟩
    · have hme := List.mem_of_getElem? he
      have w := s_sptx e.2 (h e hme)
      have hp := ptx_len (h e hme)
      have hs := hn e hme
      have hcc := ctx_succ he
      have hzi := hz i hi
      unfold cat1 at hcc
      generalize ptx e.2 = T at *
      refine ⟨by omega, by rw [s32]; omega, h1, fun e' he' => ?_⟩
      rw [he] at he'
      cases he'
      refine call_of (w) rfl (by simp) ?_
      try simp -dsimp
      try (first | exact fp_one (by decide) | refine fp_and (by decide) ?_)
      simp only [ByteArray.size_append, bst_size, s32, s10]
      refine ⟨by omega, by omega, i + 1, ⟨?_, by rw [w64 (by omega) (by omega)]; simp⟩, by omega, by omega⟩
      rw [hcc]
      simp only [ByteArray.append_assoc]
    · have : i = l.length := by omega
      subst this
      try rfl
  · rw [cdec_f hc] at w ⊢
    rw [if_neg (by decide)]
    refine sp_of (m := no) mixed Tryz.func27 k27 ?_
    simp -dsimp [q]
    refine call_of (w) rfl (by simp) ?_
    try simp -dsimp
    try (first | exact fp_one (by decide) | refine fp_and (by decide) ?_)
end Go.Proofs.YtigebbijogidlaaGreatDoorFv
namespace Go.Proofs.YtigebbijogidlaaGreatDoorFv
open Go Go.Proofs
set_option maxRecDepth 10000
set_option maxHeartbeats 2000000
theorem law_FnExactCatalogueText (a0 : List ((ByteArray × (Int × (Int × Int × Int) × List (Int))))) (wf0 : (a0.length ≤ maxLen ∧ ∀ y ∈ a0, (y.1.size ≤ maxLen ∧ ((Lit.int .i64 y.2.1).wf = true ∧ ((Lit.int .i64 y.2.2.1.1).wf = true ∧ (Lit.int .i64 y.2.2.1.2.1).wf = true ∧ (Lit.int .i64 y.2.2.1.2.2).wf = true) ∧ (y.2.2.2.length ≤ maxLen ∧ ∀ z ∈ y.2.2.2, (Lit.int .i64 z).wf = true))))) : Sp Tryz.prog 6 [.v (.sl 6 (a0.map fun y => .ag [.str y.1, .int .i64 y.2.1, .int .i64 y.2.2.1.1, .int .i64 y.2.2.1.2.1, .int .i64 y.2.2.1.2.2, .sl 0 (y.2.2.2.map fun z => .int .i64 z)]))] (.v (.bool true)) [] := by
  have hl := wf0.1
  have hw : ∀ e ∈ (a0 : List En), wfE e := fun e he => ⟨(wf0.2 e he).1, (wf0.2 e he).2.2.2.1⟩
  clear wf0
  generalize a0 = l at *
  show Sp Tryz.prog 6 [.v (ves l)] (vb true) []
  refine sp_of (m := no) mixed Tryz.func6 k6 ?_
  simp -dsimp [q]
  refine call_of (s_szES l 1048576 hl hw (by omega)) rfl (by simp) ?_
  try simp -dsimp
  try (first | exact fp_one (by decide) | refine fp_and (by decide) ?_)
  by_cases hn : (1048576 : Int) < l.length
  · rw [if_pos hn]
    simp
  rw [if_neg hn]
  intro hs
  have hle := szF_le l (1048576 - l.length) (by omega) hs
  have hc : l.length ≤ 1048576 := by omega
  have he : ∀ e ∈ l, e.1.size ≤ 1048576 ∧ e.2.2.2.length ≤ 1048576 := fun e h => by have := hle e h; omega
  have he2 : ∀ e ∈ l, e.2.2.2.length ≤ 1048576 := fun e h => (he e h).2
  generalize szF (1048576 - l.length) l = r at *
  have w1 := s_scT l hc he
  have w2 := s_icT l hc he
  cases hT : cdec (isCat l) with
  | true =>
    rw [hT, if_pos rfl] at w1 w2
    repeat ((first | refine call_of (s_toES l hc he2) rfl (by simp) ?_ | refine call_of (w1) rfl (by simp) ?_ | refine call_of (w2) rfl (by simp) ?_ | refine call_of (s_eqES l l hc he2) rfl (by simp) ?_ | exact fp_one (by decide) | refine fp_and (by decide) ?_ | refine br_l (by omega) (by omega) ?_ | refine br_r (by omega) (by omega) ?_ | refine br_p (by omega) (by omega) ?_ | refine br_q (by omega) (by omega) ?_); try simp -dsimp)
  | false =>
    rw [hT, if_neg (by decide)] at w1 w2
    repeat ((first | refine call_of (s_toES l hc he2) rfl (by simp) ?_ | refine call_of (w1) rfl (by simp) ?_ | refine call_of (w2) rfl (by simp) ?_ | refine call_of (s_eqES l l hc he2) rfl (by simp) ?_ | exact fp_one (by decide) | refine fp_and (by decide) ?_ | refine br_l (by omega) (by omega) ?_ | refine br_r (by omega) (by omega) ?_ | refine br_p (by omega) (by omega) ?_ | refine br_q (by omega) (by omega) ?_); try simp -dsimp)
end Go.Proofs.YtigebbijogidlaaGreatDoorFv
namespace Go.Proofs.YtigebbijogidlaaGreatDoorFv
open Go Go.ChangeShapes Go.WideShapes Go.RowKit Go.Deep

abbrev below (W : World) : Nat → Prop := fun b => b < W.heap.size
def OpC {α : Type} (P : Program) (t : TypeId) (encs : α → List V) (wf : α → Prop) : Prop :=
  ∀ (H : Type) (enc : TypeId × Value → H) (W : World) (spare : Nat → Bool) (held : Bool) (fuel : Nat) (cs : List Value) (x : DataW H × List MemPlace),
    DataW.trod enc P W 0 spare held fuel t cs = some x → ∃ a, RepL (below W) W (encs a) cs ∧ wf a
theorem opc_int {P : Program} {t : TypeId} {k : IntKind} (hu : P.underlying t = some (.int k)) : OpC P t (fun n => [V.int k n]) (fun n => (Lit.int k n).wf = true) := by
  intro H enc W spare held fuel cs x h
  obtain ⟨n, rfl, _, hw⟩ := DataW.trod_int hu h
  exact ⟨n, ⟨_, [], rfl, rfl, rfl, rfl⟩, hw⟩
theorem opc_bool {P : Program} {t : TypeId} (hu : P.underlying t = some .bool) : OpC P t (fun b => [V.bool b]) (fun _ => True) := by
  intro H enc W spare held fuel cs x h
  obtain ⟨n, rfl, _⟩ := DataW.trod_bool hu h
  exact ⟨n, ⟨_, [], rfl, rfl, rfl, rfl⟩, trivial⟩
theorem opc_string {P : Program} {t : TypeId} (hu : P.underlying t = some .string) : OpC P t (fun s => [V.str s]) (fun s => s.size ≤ maxLen) := by
  intro H enc W spare held fuel cs x h
  obtain ⟨n, rfl, _, hs⟩ := DataW.trod_string hu h
  exact ⟨n, ⟨_, [], rfl, rfl, rfl, rfl⟩, hs⟩
theorem list_of {α : Type} {n : Nat} {p : Nat → α → Prop} (h : ∀ i, i < n → ∃ x, p i x) : ∃ l : List α, l.length = n ∧ ∀ i (hi : i < l.length), p i l[i] := by
  induction n with
  | zero => exact ⟨[], rfl, fun i hi => absurd hi (Nat.not_lt_zero _)⟩
  | succ n ih =>
    obtain ⟨l, hl, hp⟩ := ih (fun i hi => h i (Nat.lt_succ_of_lt hi))
    obtain ⟨x, hx⟩ := h n (Nat.lt_succ_self n)
    refine ⟨l ++ [x], by simp [hl], fun i hi => ?_⟩
    by_cases e : i < l.length
    · rw [List.getElem_append_left e]; exact hp i e
    · have : i = n := by simp at hi; omega
      subst this
      rw [List.getElem_append_right (by omega)]
      simpa [hl] using hx
def mkE (k : Nat) (cs : List V) : V := if k = 0 then cs.headD default else .ag cs
theorem repAt_of {S : Nat → Prop} {w : World} {Ad : Option Addr} {e : Nat} : ∀ (xs : List V) (i : Nat), (∀ j x, xs[j]? = some x → ∃ b u, Ad = some b ∧ S b.block ∧ Rep S w x u ∧ u.cells.size = cz e ∧ x.isAg = (e != 0) ∧ ∀ (k : Nat) y, u.cells[k]? = some y → w.cell? (b.add ((i + j) * cz e + k)) = some y) → RepAt S w Ad e i xs
  | [], _, _ => trivial
  | x :: xs, i, h => by
    refine ⟨by simpa using h 0 x rfl, repAt_of xs (i + 1) (fun j y hy => ?_)⟩
    obtain ⟨b, u, h1, h2, h3, h4, h5, h6⟩ := h (j + 1) y (by simpa using hy)
    exact ⟨b, u, h1, h2, h3, h4, h5, fun k z hz => by rw [show i + 1 + j = i + (j + 1) by omega]; exact h6 k z hz⟩
theorem mkE_rep {S : Nat → Prop} {w : World} {k : Nat} {ds : List V} {cs : List Value} (h : RepL S w ds cs) (hl : cs.length = cz k) : ∃ u, Rep S w (mkE k ds) u ∧ u.cells.toList = cs ∧ (mkE k ds).isAg = (k != 0) := by
  unfold mkE
  by_cases hk : k = 0
  · subst hk
    rw [if_pos rfl]
    match ds, cs, h, hl with
    | [d], [c], ⟨u, us', h1, h2, h3, h4⟩, _ =>
      cases h1
      have := h3.cellsNe h2
      exact ⟨c, h3, by rw [this.2], h2⟩
    | [], [], _, hl => cases hl
    | _ :: _ :: _, [], h, _ => obtain ⟨_, _, h1, _⟩ := h; cases h1
    | [_], [], h, _ => obtain ⟨_, _, h1, _⟩ := h; cases h1
    | [_], _ :: _ :: _, _, hl => cases hl
    | [], _ :: _, h, _ => simp [RepL] at h
    | _ :: _ :: _, [_], h, _ => obtain ⟨_, _, h1, _, _, _, _, h2, _⟩ := h; cases h1; cases h2
    | _ :: _ :: _, _ :: _ :: _, _, hl => cases hl
  · rw [if_neg hk]
    exact ⟨.agg cs.toArray, ⟨cs, rfl, h⟩, by simp [Value.cells], by simp [V.isAg, hk]⟩
theorem opc_slice {α : Type} {P : Program} {t e : TypeId} {k : Nat} {encs : α → List V} {wf : α → Prop} (hu : P.underlying t = some (.slice e)) (hk : kindOf P e = some k) (h : OpC P e encs wf) :
    OpC P t (fun l : List α => [V.sl k (l.map fun a => mkE k (encs a))]) (fun l => l.length ≤ maxLen ∧ ∀ x ∈ l, wf x) := by
  intro H enc W spare held fuel cs x hx
  have hsz : P.cellsOf e = cz k := by
    obtain ⟨_, i, _, h1, h2, _⟩ := kindOf_spec hk
    simp [Program.cellsOf, h1, h2]
  rcases open_slice hu hx with ⟨rfl, _⟩ | ⟨a, len, cap, m, n, D, Pl, rfl, _, hl, hm, hmm, _, hel⟩
  · exact ⟨[], ⟨_, [], rfl, rfl, ⟨none, 0, rfl, Nat.le_refl _, Nat.zero_le _, trivial⟩, rfl⟩, Nat.zero_le _, fun x hx => absurd hx (by simp)⟩
  · have hle : len ≤ m := by rw [hmm]; split <;> omega
    obtain ⟨l, hlen, hp⟩ := list_of (p := fun i y => ∃ cs', W.cells? 0 (a.add (i * P.cellsOf e)) (P.cellsOf e) = some cs' ∧ RepL (below W) W (encs y) cs' ∧ wf y) (n := len) (fun i hi => by
      obtain ⟨cs', h1, h2⟩ := hel i (by omega)
      obtain ⟨y, hK, hw⟩ := h H enc W spare held n cs' _ h2
      exact ⟨y, cs', h1, hK, hw⟩)
    subst hlen
    refine ⟨l, ⟨_, [], rfl, rfl, ⟨some a, cap, by simp, by simpa using hl, hm, repAt_of _ 0 (fun j x hj => ?_)⟩, rfl⟩, Nat.le_trans hl hm, fun y hy => ?_⟩
    · simp only [List.getElem?_map, Option.map_eq_some_iff] at hj
      obtain ⟨y, hj, rfl⟩ := hj
      obtain ⟨hj', rfl⟩ := List.getElem?_eq_some_iff.1 hj
      obtain ⟨cs', h1, hK, _⟩ := hp j hj'
      obtain ⟨_, hcl, hcell⟩ := World.cells?_some h1
      rw [hsz] at hcl hcell
      obtain ⟨u, h2, h3, h4⟩ := mkE_rep hK hcl
      have hus : u.cells.size = cz k := by rw [← hcl, ← h3]; simp
      have cell : ∀ (i : Nat) y, u.cells[i]? = some y → W.cell? (a.add (j * cz k + i)) = some y := by
        intro i y hy
        have hi : i < cz k := by have := (Array.getElem?_eq_some_iff.1 hy).1; omega
        have := hcell i hi
        rw [Go.Deep.add_add] at this
        rw [this, ← h3]
        simpa using hy
      refine ⟨a, u, rfl, ?_, h2, hus, h4, fun i y hy => by simpa using cell i y hy⟩
      have h0 : 0 < u.cells.size := by rw [hus]; exact cz_pos k
      have := World.block_lt_of_cell? W _ (cell 0 _ (Array.getElem?_eq_getElem h0))
      rwa [add_block] at this
    · obtain ⟨j, hj, rfl⟩ := List.mem_iff_getElem.1 hy
      obtain ⟨_, _, _, hw⟩ := hp j hj
      exact hw
theorem RepL.append {S : Nat → Prop} {w : World} : ∀ {az bs : List V} {us vs : List Value}, RepL S w az us → RepL S w bs vs → RepL S w (az ++ bs) (us ++ vs)
  | [], _, us, _, h, k => by simp only [RepL] at h; subst h; exact k
  | a :: az, _, us, vs, ⟨u, us', h1, h2, h3, h4⟩, k => by subst h1; exact ⟨u, us' ++ vs, rfl, h2, h3, h4.append k⟩
/-- The fields of a struct, from a place on. -/
def OpF {α : Type} (P : Program) (fs : List Field) (off n : Nat) (encs : α → List V) (wf : α → Prop) : Prop :=
  ∀ (H : Type) (enc : TypeId × Value → H) (W : World) (spare : Nat → Bool) (held : Bool) (fuel : Nat) (cs : List Value), cs.length = off + n →
    (∀ f ∈ fs, ∃ y, DataW.trod enc P W 0 spare held fuel f.type ((cs.drop f.offset).take (P.cellsOf f.type)) = some y) → ∃ a, RepL (below W) W (encs a) (cs.drop off) ∧ wf a
theorem opf_one {α : Type} {P : Program} {f : Field} {off n : Nat} {encs : α → List V} {wf : α → Prop} (ho : f.offset = off) (hc : P.cellsOf f.type = n) (h : OpC P f.type encs wf) : OpF P [f] off n encs wf := by
  intro H enc W spare held fuel cs hl hf
  obtain ⟨y, hy⟩ := hf f (by simp)
  rw [ho, hc, List.take_of_length_le (by rw [List.length_drop]; omega)] at hy
  exact h H enc W spare held fuel _ _ hy
theorem opf_cons {α β : Type} {P : Program} {f : Field} {fs : List Field} {off n m : Nat} {encs : α → List V} {encs1 : β → List V} {wf : α → Prop} {wf1 : β → Prop} (ho : f.offset = off) (hc : P.cellsOf f.type = n) (h : OpC P f.type encs wf) (h1 : OpF P fs (off + n) m encs1 wf1) :
    OpF P (f :: fs) off (n + m) (fun a : α × β => encs a.1 ++ encs1 a.2) (fun a => wf a.1 ∧ wf1 a.2) := by
  intro H enc W spare held fuel cs hl hf
  obtain ⟨y, hy⟩ := hf f (by simp)
  rw [ho, hc] at hy
  obtain ⟨a, hK, hw⟩ := h H enc W spare held fuel _ _ hy
  obtain ⟨b, hK1, hw1⟩ := h1 H enc W spare held fuel cs (by omega) (fun g hg => hf g (by simp [hg]))
  refine ⟨(a, b), ?_, hw, hw1⟩
  have := hK.append hK1
  rwa [← List.drop_drop, List.take_append_drop] at this
theorem opc_struct {α : Type} {P : Program} {t : TypeId} {fs : Array Field} {n : Nat} {encs : α → List V} {wf : α → Prop} (hu : P.underlying t = some (.struct fs)) (hc : P.cellsOf t = n) (h : OpF P fs.toList 0 n encs wf) : OpC P t encs wf := by
  intro H enc W spare held fuel cs x hx
  obtain ⟨xs, m, _, _, hl, hlen, hf⟩ := DataW.trod_struct hu hx
  have := h H enc W spare held m cs (by omega) (fun f hf' => by
    obtain ⟨i, hi, rfl⟩ := List.mem_iff_getElem.1 hf'
    have h2 := hf i fs.toList[i] (by simp at hi ⊢)
    rw [List.getElem?_eq_getElem (by simp at hi; omega)] at h2
    exact ⟨_, h2⟩)
  simpa using this
theorem agg_of {P : Program} {W : World} {r : Reach} {base : Nat} {t : TypeId} {fs : Array Field} {v : Value} (hu : P.underlying t = some (.struct fs)) (hv : Value.okWide P W r base t v) : ∃ cs : Array Value, v = .agg cs := by
  obtain ⟨cs, rfl, _⟩ := okWide_struct hu hv
  exact ⟨cs, rfl⟩
theorem cell_rows {w : World} {g : Nat} {v : Value} (h : w.cell? ⟨g, 0, none⟩ = some v) : ∃ cs t z, w.heap[g]? = some (.cells cs t z) ∧ cs[0]? = some v := by
  unfold World.cell? at h
  split at h
  · rename_i cs t z hh
    refine ⟨cs, t, z, hh, ?_⟩
    simpa using h
  · cases h
theorem rows_cell {w : World} {g : Nat} {v : Value} {cs : Array Value} {t : TypeId} {z : Nat × Nat} (h : w.heap[g]? = some (.cells cs t z)) (h0 : cs[0]? = some v) : w.cell? ⟨g, 0, none⟩ = some v := by
  unfold World.cell?
  simp only [h]
  simpa using h0
/-- A law's call comes back with true, and what was there is there. -/
theorem law_calls {P : Program} {f : Nat} {az : List A} (h : Sp P f az (.v (.bool true)) []) (W : World) (hT : Tbl W (fun _ => False) (below W)) (us : List Value) (hus : ARs (fun _ => none) (fun _ => (0, 0)) (below W) W az us) :
    Calls P f us.toArray W fun e w' => e = .returned (.bool true) ∧ Below W.heap.size W w' := by
  have R0 : Rl W (fun _ => False) (below W) (fun i => ([] : List Ck)[i]?) (fun _ => (0, 0)) (below W) W :=
    ⟨hT, rfl, rfl, rfl, Nat.le_refl _, fun _ _ _ => rfl, fun _ h => h, fun _ h => .inl h, fun _ h => h, fun i => trivial, fun i c hc => (by cases hc), fun i j c d hc => (by cases hc)⟩
  refine (h.2 (below W) W us (fun _ => False) (fun _ => (0, 0)) R0 hus).mono ?_
  rintro e w' ⟨u, S', μ', rfl, R, _, hu⟩
  have : u = .bool true := hu
  exact ⟨by rw [this], R.os, R.tape, R.output, R.size, fun k hk => R.keep k hk (fun h => h)⟩
theorem ar_agg {S : Nat → Prop} {w : World} {ds : List V} {cs : Array Value} (h : RepL S w ds cs.toList) : AR (fun _ => none) (fun _ => (0, 0)) S w (.v (.ag ds)) (.agg cs) := ⟨cs.toList, by simp, h⟩
theorem ar_one {S : Nat → Prop} {w : World} {d : V} {v : Value} (h : RepL S w [d] [v]) : AR (fun _ => none) (fun _ => (0, 0)) S w (.v d) v := by
  obtain ⟨u, us', h1, h2, h3, h4⟩ := h
  cases h1
  exact h3
end Go.Proofs.YtigebbijogidlaaGreatDoorFv
namespace Go.Proofs.YtigebbijogidlaaGreatDoorFv
open Go Go.ChangeShapes Go.WideShapes Go.RowKit
theorem returnsInHanded_both {H : Type} {enc : TypeId × Value → H} {a : Assume} {C : Checked} {os : Os} {f : FuncId} {fn : Func} {s : ChangeSpec} {conds : List PathCond} {apart fresh handsOn again : Bool} {X : World → Array Value → Prop}
    (hX : ∀ (w w' : World) (args : Array Value), w.heap = w'.heap → X w args → X w' args)
    (own : ownKnob C.prog.godebug = none) (started : os.Started) (noInit : C.prog.inits.idxOf? f = none) (hfn : C.prog.funcs[f]? = some fn)
    (witness : ∃ (w : World) (tape : Tape) (i : Input), w.os = os ∧ (w.forCall tape i).Shaped C.prog ∧ i.vars = [] ∧ Input.okWide C.prog (w.forCall tape i) .any w.heap.size f i ∧
      ((s.pre enc C.prog fn conds apart (w.forCall tape i).memory i.args ∧ X (w.forCall tape i).memory i.args) ∧ sizedMet enc C.prog fn (OpenSpec.ofChange s) apart (w.forCall tape i).memory i.args) ∧ a.holds C.prog (lone (Frame.enter C.prog f i.args .normal) [] (w.forCall tape i)))
    (contract : ∀ (W : World) (base : Nat) (args : Array Value) (ds gs : List (DataW H)) (before : List MemPlace),
      (∀ (j : Nat) t v, fn.params[j]? = some t → args[j]? = some v → Value.okWide C.prog W .any base t v) →
      DataW.Whole enc C.prog fn.params.toList s.vars apart W args.toList ds gs before →
      conds.all (PathCond.test C.prog ⟨fn.params.toList, ds, s.plain.varTypes C.prog, gs⟩) = true →
      (DataW.weightsEach C.prog (fn.params.toList ++ s.plain.varTypes C.prog) (ds ++ gs)).all (· ≤ reachBytes) = true → X W args → W.ShapedOpen C.prog →
      a.holds C.prog (lone (Frame.enter C.prog f args .normal) [] W) →
      Calls C.prog f args W fun e W' => ∃ v, e = .returned v ∧ s.post enc C.prog fn apart fresh handsOn again W args v W') :
    ReturnsInHanded a C os f .any (fun w args => (s.pre enc C.prog fn conds apart w args ∧ X w args) ∧ sizedMet enc C.prog fn (OpenSpec.ofChange s) apart w args) (s.post enc C.prog fn apart fresh handsOn again) := by
  refine returnsInHanded_of_calls own started noInit witness ?_
  intro w tape i _ hsh _ hok hpre hholds
  obtain ⟨_, _, _, fn', hfn', _, _, _, _, hval⟩ := hok
  have e : fn' = fn := Option.some.inj (hfn'.symm.trans hfn)
  subst e
  obtain ⟨⟨⟨ds, gs, before, hw, hc⟩, hx⟩, hz⟩ := hpre
  have hw' := DataW.Whole.of_heap (w' := w.forCall tape i) (by rfl) hw
  refine (contract (w.forCall tape i) w.heap.size i.args ds gs before hval hw' hc (hz.weights hw) (hX _ _ _ (by rfl) hx) hsh hholds).mono fun e W' ⟨v, he, hp⟩ => ?_
  subst he
  exact ChangeSpec.post_blind hp
theorem tb_var {P : Program} {W : World} {n : String} {g : Nat} {cs : Array Value} (hg : P.globalNamed n = some g) (h : W.var? P n = some cs) : below W g ∧ ¬ False ∧ ∃ cs' t z, W.heap[g]? = some (.cells cs' t z) ∧ cs' = cs := by
  unfold World.var? at h
  rw [hg] at h
  simp only [Option.bind_some] at h
  split at h
  · rename_i cs' t z hh
    exact ⟨(Array.getElem?_eq_some_iff.1 hh).1, fun h => h, cs', t, z, hh, Option.some.inj h⟩
  · cases h
theorem tb_int {W : World} {g : Nat} {k : IntKind} (h : ∃ m, W.cell? ⟨g, 0, none⟩ = some (.int k m)) : below W g ∧ ¬ False ∧ ∃ cs t z, W.heap[g]? = some (.cells cs t z) ∧ ∃ m, cs[0]? = some (.int k m) := by
  obtain ⟨m, h⟩ := h
  obtain ⟨cs, t, z, hh, h0⟩ := cell_rows h
  exact ⟨(Array.getElem?_eq_some_iff.1 hh).1, fun h => h, cs, t, z, hh, m, h0⟩
theorem tb_err {P : Program} {W : World} {n : String} {g : Nat} {tp : TypeId} {p : Value} (hg : P.globalNamed n = some g) (h : W.var? P n = some #[.iface tp p]) : below W g ∧ ¬ False ∧ ∃ cs t z, W.heap[g]? = some (.cells cs t z) ∧ ∃ t p, cs[0]? = some (.iface t p) := by
  obtain ⟨h1, h2, cs, t, z, hh, rfl⟩ := tb_var hg h
  exact ⟨h1, h2, _, t, z, hh, tp, p, rfl⟩
end Go.Proofs.YtigebbijogidlaaGreatDoorFv
