/- What the code computes, and what it means: part 4 of the proof of FnMasks. No condition of its own. -/
import Derived.Deep.Slices
import Derived.WalkKit
import Derived.OpenShut
import Derived.ShutString
import Derived.ChangeOld
import Derived.SizedLaws
import Derived.Test.YtgkhakhkebjbpaaCFnMasks3
namespace Go.Proofs.YtgkhakhkebjbpaaEv
open Go Go.Proofs
set_option maxRecDepth 10000
set_option maxHeartbeats 2000000
def stN : Nat → Int × Int | 0 => (1, 0) | 1 => (0, 1) | 2 => (-1, 0) | _ => (0, -1)
def mx (g : Nat → Int) (x : Int) : Nat → Int | 0 => x | k + 1 => max (mx g x k) (g k)
def nbG (a b c : Int) (l : List Int) (j : Nat) (t : Nat) : Int := l.getD (mv a b c (stN t).1 (stN t).2 j) 0
def spI (a b c : Int) (l : List Int) (n : Nat) : List Int := (List.range n).map fun j => mx (nbG a b c l j) (l.getD j 0) 4
theorem spI_len {a b c : Int} {l : List Int} {n : Nat} : (spI a b c l n).length = n := by simp [spI]
theorem spI_take {a b c : Int} {l : List Int} {n i : Nat} (hi : i < n) : (spI a b c l n).take (i + 1) = (spI a b c l n).take i ++ [mx (nbG a b c l i) (l.getD i 0) 4] := by
  rw [List.take_add_one]
  simp [spI, hi]
def soL (a b c : Int) (l : List Int) : Nat → List Int
  | 0 => l
  | k + 1 => ovS a b c (stN k).1 (stN k).2 (soL a b c l k) l 1 l.length
theorem soL_len {a b c : Int} {l : List Int} : ∀ k, (soL a b c l k).length = l.length
  | 0 => rfl
  | k + 1 => by rw [soL, setN_len, soL_len k]
theorem soL_get {a b c : Int} {l : List Int} (ha : 0 < a) (hc : 0 < c) (hl : (l.length : Int) = a * c) (h01 : ∀ x ∈ l, 0 ≤ x ∧ x ≤ 1) (j : Nat) (hj : j < l.length) : ∀ k, ∃ z, (0 ≤ z ∧ z ≤ 1) ∧ (soL a b c l k)[j]? = some z ∧ z = mx (fun t => l.getD (mv a b c (-(stN t).1) (-(stN t).2) j) 0) (l.getD j 0) k
  | 0 => ⟨l.getD j 0, by
      have := h01 l[j] (List.getElem_mem hj)
      simpa [hj] using this, by simp [soL, hj], rfl⟩
  | k + 1 => by
    obtain ⟨z, hz, h1, h2⟩ := soL_get ha hc hl h01 j hj k
    have e := ovS_eq (a := a) (b := b) (c := c) (u := (stN k).1) (v := (stN k).2) (p := soL a b c l k) (m := l) (ink := 1) ha hc (by rw [soL_len]; exact hl) (by rw [soL_len])
    rw [soL_len] at e
    have hm : mv a b c (-(stN k).1) (-(stN k).2) j < l.length := by have := mv_lt (b := b) (u := -(stN k).1) (v := -(stN k).2) ha hc j; omega
    have hg : (mvI a b c (stN k).1 (stN k).2 l l.length).getD j 0 = l.getD (mv a b c (-(stN k).1) (-(stN k).2) j) 0 := by
      simp [mvI, hj]
    have hy : 0 ≤ l.getD (mv a b c (-(stN k).1) (-(stN k).2) j) 0 ∧ l.getD (mv a b c (-(stN k).1) (-(stN k).2) j) 0 ≤ 1 := by
      have := h01 _ (List.getElem_mem hm)
      simpa [hm] using this
    generalize hY : l.getD (mv a b c (-(stN k).1) (-(stN k).2) j) 0 = y at *
    have hs : (soL a b c l (k + 1))[j]? = if y = 1 then some 1 else some z := by
      rw [soL, e, setN_get (i := j) (m := l.length) (by rw [soL_len]; exact hj) hj (fun k _ => Iff.rfl) l.length (Nat.le_refl _), h1, hg]
      by_cases e1 : y = 1
      · rw [if_pos ⟨hj, decide_eq_true e1⟩, if_pos e1]
      · rw [if_neg (fun h => e1 (of_decide_eq_true h.2)), if_neg e1]
    refine ⟨if y = 1 then 1 else z, ?_, ?_, ?_⟩
    · split <;> omega
    · rw [hs]; split <;> rfl
    · simp only [mx]
      rw [← h2, hY]
      split <;> omega
theorem so_sp {a b c : Int} {l : List Int} (ha : 0 < a) (hc : 0 < c) (hl : (l.length : Int) = a * c) (h01 : ∀ x ∈ l, 0 ≤ x ∧ x ≤ 1) : soL a b c l 4 = spI a b c l l.length := by
  apply List.ext_getElem?
  intro j
  by_cases hj : j < l.length
  · obtain ⟨z, _, h1, h2⟩ := soL_get (b := b) ha hc hl h01 j hj 4
    rw [h1, h2]
    simp only [spI, List.getElem?_map, List.getElem?_range hj, Option.map_some, mx, nbG, stN, Int.neg_neg, Int.neg_zero]
    congr 1
    omega
  · rw [List.getElem?_eq_none (by rw [soL_len]; omega), List.getElem?_eq_none (by rw [spI_len]; omega)]
theorem sp_ge {a b c : Int} {l : List Int} {j : Nat} {x y : Int} (hx : l[j]? = some x) (hy : (spI a b c l l.length)[j]? = some y) : x ≤ y := by
  have hj : j < l.length := (List.getElem?_eq_some_iff.1 hx).1
  simp only [spI, List.getElem?_map, List.getElem?_range hj, Option.map_some, Option.some.injEq] at hy
  have e : l.getD j 0 = x := by simp [hx]
  rw [← hy, e]
  simp only [mx]
  omega
theorem s_nb (x y : Int) (hx : x.natAbs ≤ 1000000) (hy : y.natAbs ≤ 1000000) : Sp Try.prog 35 [aV x y] (.v (vvs [(x + 1, y + 0), (x + 0, y + 1), (x + -1, y + 0), (x + 0, y + -1)])) [] := by
  refine sp_of (m := no) mixed Try.func35 k35 ?_
  simp -dsimp [q]
  refine call_of (s_add x y 1 0 (by omega) (by omega) (by omega) (by omega)) rfl (by simp) ?_
  try simp -dsimp
  try (first | exact fp_one (by decide) | refine fp_and (by decide) ?_)
  refine call_of (s_add x y 0 1 (by omega) (by omega) (by omega) (by omega)) rfl (by simp) ?_
  try simp -dsimp
  try (first | exact fp_one (by decide) | refine fp_and (by decide) ?_)
  refine call_of (s_add x y (-1) 0 (by omega) (by omega) (by omega) (by omega)) rfl (by simp) ?_
  try simp -dsimp
  try (first | exact fp_one (by decide) | refine fp_and (by decide) ?_)
  refine call_of (s_add x y 0 (-1) (by omega) (by omega) (by omega) (by omega)) rfl (by simp) ?_
  try simp -dsimp
  try (first | exact fp_one (by decide) | refine fp_and (by decide) ?_)
  simp [vs, vv]
theorem s_nbN (x y : Int) (hx : x.natAbs ≤ 1000000) (hy : y.natAbs ≤ 1000000) : ∃ N : List (Int × Int), N.length = 4 ∧ (∀ t u v, N[t]? = some (u, v) → t < 4 ∧ u = x + (stN t).1 ∧ v = y + (stN t).2) ∧ Sp Try.prog 35 [aV x y] (.v (vvs N)) [] := by
  refine ⟨_, rfl, fun t u v h => ?_, s_nb x y hx hy⟩
  match t, h with
  | 0, h => simp at h; simp [stN]; omega
  | 1, h => simp at h; simp [stN]; omega
  | 2, h => simp at h; simp [stN]; omega
  | 3, h => simp at h; simp [stN]; omega
theorem s_st21 : ∃ N : List (Int × Int), N.length = 4 ∧ (∀ t u v, N[t]? = some (u, v) → (u, v) = stN t) ∧ Sp Try.prog 37 [] (.v (vvs N)) [] := by
  refine ⟨[(1, 0), (0, 1), (-1, 0), (0, -1)], rfl, fun t u v h => ?_, ?_⟩
  · match t, h with
    | 0, h => simp at h; simp [stN, h]
    | 1, h => simp at h; simp [stN, h]
    | 2, h => simp at h; simp [stN, h]
    | 3, h => simp at h; simp [stN, h]
  · refine sp_of (m := no) mixed Try.func37 k37 ?_
    simp -dsimp [q]
    simp [vs, vv]
theorem s_overP (f a b c : Int) (p : List Int) (f' a' b' c' : Int) (m : List Int) (ink u v : Int) (hl : okL a b c = true) (hp : (p.length : Int) = a * c) (hm : m.length = p.length) (hu : u.natAbs ≤ 1000) (hv : v.natAbs ≤ 1000) : Sp Try.prog 33 [aP f a b c p, aP f' a' b' c' m, vi ink, aV u v] (aP f a b c (ovS a b c u v p m ink p.length)) [] := by
  obtain ⟨ha, hc, hb, hac⟩ := okL_spec.1 hl
  have h1 := ac_pos ha.1 hc.1
  have hn := nat_n ha.1 hc.1 hp
  refine sp_of (m := no) mixed Try.func33 k33 ?_
  simp -dsimp [q]
  refine call_of (s_scells a b c ha hc) rfl (by simp) ?_
  try simp -dsimp
  try (first | exact fp_one (by decide) | refine fp_and (by decide) ?_)
  refine call_of (s_own p (by omega)) rfl (by simp) ?_
  try simp -dsimp
  try (first | exact fp_one (by decide) | refine fp_and (by decide) ?_)
  refine awp_it (false :: false :: true :: false :: true :: true :: false :: true :: true :: true :: true :: true :: []) (fun i : Nat => [(11, vi i)]) (fun i => [(6, .row 0 2 (is (ovS a b c u v p m ink i)))]) (fun i => i ≤ p.length) (fun i => p.length - i) 0 ?_
  intro s0 e
  simp -dsimp at e
  subst e
  refine ⟨?_, ?_⟩
  · simp [ovS, setN]
  intro i hi
  simp -dsimp [setN_len, hm, cellsL_len, hn]
  refine ⟨fun h1 => ⟨h1, fun z hz => ?_⟩, fun h1 => ?_⟩
  · have hg : m.getD i 0 = z := by simp [hz]
    refine ⟨fun e => ⟨h1, fun x y hxy => ?_⟩, fun e => ⟨i + 1, ⟨by rw [w64 (by omega) (by omega)]; simp, ?_⟩, by omega, by omega⟩⟩
    · obtain ⟨⟨k1, k2⟩, k3, _⟩ := cell_of ha.1 hc.1 hxy
      have k4 := k3 b u v
      have k5 := num_range (a := a) (b := b) (c := c) (x := x + u) (y := y + v) (by omega) (by omega)
      refine call_of (s_sadd _ _ _ _ (by omega) (by omega) (by omega) (by omega)) rfl (by simp) ?_
      try simp -dsimp
      try (first | exact fp_one (by decide) | refine fp_and (by decide) ?_)
      refine call_of (s_snumber _ _ _ _ _ ha hb hc (by omega) (by omega)) rfl (by simp) ?_
      try simp -dsimp
      try (first | exact fp_one (by decide) | refine fp_and (by decide) ?_)
      simp only [setN_len]
      refine ⟨⟨k5.1, by omega⟩, by omega, by decide, i + 1, ⟨by rw [w64 (by omega) (by omega)]; simp, ?_⟩, by omega, by omega⟩
      simp only [ovS, setN, hg, decide_eq_true e, if_true, k4]
    · simp only [ovS, setN, hg, decide_eq_false e, if_false, Bool.false_eq_true]
  · rw [show i = p.length by omega]
theorem s_spS (f a b c : Int) (l : List Int) (h1 : okP f a b c l = true) (h2 : (l.all fun n => decide (0 ≤ n ∧ n ≤ 1)) = true) (hl : l.length ≤ 1048576) : Sp Try.prog 13 [aP f a b c l] (.tu [oP f a b c 0, vi 0]) [.row 0 2 (is (spI a b c l l.length))] := by
  obtain ⟨_, k2, k3, _⟩ := okP_spec.1 h1
  obtain ⟨ha, hc, hb, hac⟩ := okL_spec.1 k2
  have w1 := s_sall l 64 0 1 hl
  rw [h2, decide_eq_true (show (l.length : Int) ≤ 64 by omega)] at w1
  have w2 := s_scode25 f a b c l true hl
  rw [if_pos h1, if_pos rfl] at w2
  obtain ⟨N, hN, hst, w3⟩ := s_st21
  have h01 : ∀ x ∈ l, 0 ≤ x ∧ x ≤ 1 := fun x hx => of_decide_eq_true (List.all_eq_true.1 h2 x hx)
  have hso := so_sp (b := b) (show 0 < a by omega) (show 0 < c by omega) k3 h01
  refine sp_of (m := no) mixed Try.func13 k13 ?_
  simp -dsimp [q]
  refine call_of (w1) rfl (by simp) ?_
  try simp -dsimp
  try (first | exact fp_one (by decide) | refine fp_and (by decide) ?_)
  refine call_of (w2) rfl (by simp) ?_
  try simp -dsimp
  try (first | exact fp_one (by decide) | refine fp_and (by decide) ?_)
  refine call_of (w3) rfl (by simp) ?_
  try simp -dsimp
  try (first | exact fp_one (by decide) | refine fp_and (by decide) ?_)
  refine awp_it (false :: true :: true :: false :: false :: true :: true :: true :: []) (fun k : Nat => [(7, vi k)]) (fun k => [(2, .box [vi f, vi a, vi b, vi c, .v (vis (soL a b c l k))])]) (fun k => k ≤ 4) (fun k => 4 - k) 0 ?_
  intro s0 e
  simp -dsimp at e
  subst e
  refine ⟨?_, ?_⟩
  · simp [soL]
  intro k hk
  simp -dsimp
  refine ⟨fun h3 => ⟨by omega, fun u v huv => ?_⟩, fun h3 => ?_⟩
  · have he := hst k u v huv
    have hu : u.natAbs ≤ 1000 ∧ v.natAbs ≤ 1000 := by
      match k, he with
      | 0, he => cases he; decide
      | 1, he => cases he; decide
      | 2, he => cases he; decide
      | (n + 3), he => cases he; decide
    have w4 := s_overP f a b c (soL a b c l k) f a b c l 1 u v k2 (by rw [soL_len]; exact k3) (by rw [soL_len]) hu.1 hu.2
    rw [soL_len, show ovS a b c u v (soL a b c l k) l 1 l.length = soL a b c l (k + 1) by rw [soL, ← he]] at w4
    refine call_of (w4) rfl (by simp) ?_
    try simp -dsimp
    try (first | exact fp_one (by decide) | refine fp_and (by decide) ?_)
    exact ⟨k + 1, by rw [w64 (by omega) (by omega)]; simp, by omega, by omega⟩
  · rw [show k = 4 by omega, hso]
    have w5 := s_own (spI a b c l l.length) (by rw [spI_len]; exact hl)
    refine call_of (w5) rfl (by simp) ?_
    try simp -dsimp
    try (first | exact fp_one (by decide) | refine fp_and (by decide) ?_)
theorem s_spS_bad (f a b c : Int) (l : List Int) (k : Int) (h : ¬ (okP f a b c l = true ∧ (l.all fun n => decide (0 ≤ n ∧ n ≤ 1)) = true)) (hk : k = if okP f a b c l = true then 2 else 1) (hl : l.length ≤ 1048576) : Sp Try.prog 13 [aP f a b c l] (.tu [zP, vi k]) [] := by
  have w1 := s_sall l 64 0 1 hl
  have w2 := s_scode25 f a b c l ((l.all fun n => decide (0 ≤ n ∧ n ≤ 1)) && decide ((l.length : Int) ≤ 64)) hl
  have e : (if okP f a b c l = true then if ((l.all fun n => decide (0 ≤ n ∧ n ≤ 1)) && decide ((l.length : Int) ≤ 64)) = true then (0 : Int) else 2 else 1) = k := by
    rw [hk]
    split
    · next h1 => rw [if_neg (by rw [Bool.and_eq_true]; exact fun h2 => h ⟨h1, h2.1⟩)]
    · rfl
  rw [e] at w2
  have hk0 : k ≠ 0 := by rw [hk]; split <;> decide
  generalize ((l.all fun n => decide (0 ≤ n ∧ n ≤ 1)) && decide ((l.length : Int) ≤ 64)) = T at *
  refine sp_of (m := no) mixed Try.func13 k13 ?_
  simp -dsimp [q]
  refine call_of (w1) rfl (by simp) ?_
  try simp -dsimp
  try (first | exact fp_one (by decide) | refine fp_and (by decide) ?_)
  refine call_of (w2) rfl (by simp) ?_
  try simp -dsimp
  try (first | exact fp_one (by decide) | refine fp_and (by decide) ?_)
  exact fun h => absurd h hk0
theorem s_spI_bad (f a b c : Int) (l : List Int) (h1 : okP f a b c l = false) (hl : l.length ≤ 1048576) : Sp Try.prog 12 [aP f a b c l] (.tu [zP, vi 1]) [] := by
  have w1 := s_isP f a b c l hl
  rw [h1] at w1
  refine sp_of (m := no) mixed Try.func12 k12 ?_
  simp -dsimp [q]
  refine call_of (w1) rfl (by simp) ?_
  try simp -dsimp
  try (first | exact fp_one (by decide) | refine fp_and (by decide) ?_)
theorem s_spI_far (f a b c : Int) (l : List Int) (h1 : okP f a b c l = true) (h2 : (l.all fun n => decide (0 ≤ n ∧ n ≤ 1)) = false) (hl : l.length ≤ 1048576) : Sp Try.prog 12 [aP f a b c l] (.tu [zP, vi 2]) [] := by
  have w1 := s_isP f a b c l hl
  rw [h1] at w1
  have w2 := s_all l 0 1 hl
  rw [h2] at w2
  refine sp_of (m := no) mixed Try.func12 k12 ?_
  simp -dsimp [q]
  refine call_of (w1) rfl (by simp) ?_
  try simp -dsimp
  try (first | exact fp_one (by decide) | refine fp_and (by decide) ?_)
  refine call_of (w2) rfl (by simp) ?_
  try simp -dsimp
  try (first | exact fp_one (by decide) | refine fp_and (by decide) ?_)
theorem s_spI (f a b c : Int) (l : List Int) (h1 : okP f a b c l = true) (h2 : (l.all fun n => decide (0 ≤ n ∧ n ≤ 1)) = true) (hl : l.length ≤ 1048576) : Sp Try.prog 12 [aP f a b c l] (.tu [oP f a b c 0, vi 0]) [.row 0 2 (is (spI a b c l l.length))] := by
  have w1 := s_isP f a b c l hl
  rw [h1] at w1
  have w2 := s_all l 0 1 hl
  rw [h2] at w2
  obtain ⟨_, k2, k3, _⟩ := okP_spec.1 h1
  obtain ⟨ha, hc, hb, hac⟩ := okL_spec.1 k2
  have hp := ac_pos ha.1 hc.1
  have hn := nat_n ha.1 hc.1 k3
  have w3 := s_cells a b c ha hc
  have h0 : l ≠ [] := by rintro rfl; simp at k3; omega
  refine sp_of (m := no) mixed Try.func12 k12 ?_
  simp -dsimp [q]
  refine call_of (w1) rfl (by simp) ?_
  try simp -dsimp
  try (first | exact fp_one (by decide) | refine fp_and (by decide) ?_)
  refine call_of (w2) rfl (by simp) ?_
  try simp -dsimp
  try (first | exact fp_one (by decide) | refine fp_and (by decide) ?_)
  refine call_of (w3) rfl (by simp) ?_
  try simp -dsimp
  try (first | exact fp_one (by decide) | refine fp_and (by decide) ?_)
  refine awp_it (false :: true :: true :: false :: true :: false :: false :: false :: false :: false :: false :: false :: false :: false :: false :: false :: false :: false :: false :: false :: false :: false :: false :: false :: false :: false :: true :: true :: true :: []) (fun i : Nat => [(28, vi i)]) (fun i => match i with | 0 => [] | i + 1 => [(2, .box [vi f, vi a, vi b, vi c, .sli 4]), (4, .row 0 2 (is ((spI a b c l l.length).take (i + 1))))]) (fun i => i ≤ l.length) (fun i => l.length - i) 0 ?_
  intro s0 e
  simp -dsimp at e
  subst e
  refine ⟨?_, ?_⟩
  · simp
  intro i hi
  cases i with
  | zero =>
    simp -dsimp [cellsL_len, hn]
    refine ⟨fun h4 => ⟨h4, fun x y hxy => ⟨by omega, fun z hz => ?_⟩⟩, fun h4 => absurd h4 h0⟩
    obtain ⟨⟨k1, k2'⟩, k3', _⟩ := cell_of ha.1 hc.1 hxy
    obtain ⟨N, hN, hst, w4⟩ := s_nbN x y (by omega) (by omega)
    have hg : l.getD 0 0 = z := by simp [hz]
    refine call_of (w4) rfl (by simp) ?_
    try simp -dsimp
    try (first | exact fp_one (by decide) | refine fp_and (by decide) ?_)
    refine awp_it (false :: true :: true :: false :: true :: false :: false :: true :: false :: false :: false :: false :: false :: false :: false :: false :: false :: false :: false :: false :: false :: false :: false :: false :: false :: false :: true :: true :: true :: false :: false :: false :: false :: false :: false :: false :: false :: false :: false :: true :: true :: true :: []) (fun t : Nat => [(7, vi (mx (nbG a b c l 0) z t)), (41, vi t)]) (fun t => []) (fun t => t ≤ 4) (fun t => 4 - t) 0 ?_
    intro s0 e
    simp -dsimp at e
    subst e
    refine ⟨?_, ?_⟩
    · simp [mx]
    intro t ht
    simp -dsimp [hN]
    refine ⟨fun h5 => ⟨by omega, fun u v huv => ?_⟩, fun h5 => ?_⟩
    · obtain ⟨e1, e2, e3⟩ := hst t u v huv
      have hs : (stN t).1.natAbs ≤ 1 ∧ (stN t).2.natAbs ≤ 1 := by
        match t with
        | 0 => decide
        | 1 => decide
        | 2 => decide
        | (n + 3) => exact (by decide : (0 : Int).natAbs ≤ 1 ∧ (-1 : Int).natAbs ≤ 1)
      have e4 : l.getD (num a b c u v).toNat 0 = nbG a b c l 0 t := by
        rw [nbG, k3' b (stN t).1 (stN t).2, e2, e3]
      have w5 := s_at f a b c u v l h1 (by omega) (by omega)
      rw [e4] at w5
      refine call_of (w5) rfl (by simp) ?_
      try simp -dsimp
      try (first | exact fp_one (by decide) | refine fp_and (by decide) ?_)
      refine ⟨t + 1, ⟨?_, ?_⟩, by omega, by omega⟩
      · simp only [mx]
        omega
      · rw [w64 (by omega) (by omega)]; simp
    · have e5 : t = 4 := by omega
      subst e5
      have ht := spI_take (a := a) (b := b) (c := c) (l := l) (n := l.length) (i := 0) (by omega)
      rw [hg] at ht
      simp at ht
      exact ⟨1, by rw [w64 (by omega) (by omega)]; simp [ht], by omega, by omega⟩
  | succ i =>
    simp -dsimp [cellsL_len, hn, spI_len]
    refine ⟨fun h4 => ⟨⟨by omega, by omega⟩, by omega, fun x y hxy => ⟨⟨by omega, by omega⟩, fun z hz => ?_⟩⟩, fun h4 => ?_⟩
    · obtain ⟨⟨k1, k2'⟩, k3', _⟩ := cell_of ha.1 hc.1 hxy
      obtain ⟨N, hN, hst, w4⟩ := s_nbN x y (by omega) (by omega)
      have hg : l.getD (i + 1) 0 = z := by simp [hz]
      refine call_of (w4) rfl (by simp) ?_
      try simp -dsimp
      try (first | exact fp_one (by decide) | refine fp_and (by decide) ?_)
      refine awp_it (false :: true :: true :: false :: true :: false :: false :: true :: false :: false :: false :: false :: false :: false :: false :: false :: false :: false :: false :: false :: false :: false :: false :: false :: false :: false :: true :: true :: true :: false :: false :: false :: false :: false :: false :: false :: false :: false :: false :: true :: true :: true :: []) (fun t : Nat => [(7, vi (mx (nbG a b c l (i + 1)) z t)), (41, vi t)]) (fun t => []) (fun t => t ≤ 4) (fun t => 4 - t) 0 ?_
      intro s0 e
      simp -dsimp at e
      subst e
      refine ⟨?_, ?_⟩
      · simp [mx]
      intro t ht
      simp -dsimp [hN]
      refine ⟨fun h5 => ⟨by omega, fun u v huv => ?_⟩, fun h5 => ?_⟩
      · obtain ⟨e1, e2, e3⟩ := hst t u v huv
        have hs : (stN t).1.natAbs ≤ 1 ∧ (stN t).2.natAbs ≤ 1 := by
          match t with
          | 0 => decide
          | 1 => decide
          | 2 => decide
          | (n + 3) => exact (by decide : (0 : Int).natAbs ≤ 1 ∧ (-1 : Int).natAbs ≤ 1)
        have e4 : l.getD (num a b c u v).toNat 0 = nbG a b c l (i + 1) t := by
          rw [nbG, k3' b (stN t).1 (stN t).2, e2, e3]
        have w5 := s_at f a b c u v l h1 (by omega) (by omega)
        rw [e4] at w5
        refine call_of (w5) rfl (by simp) ?_
        try simp -dsimp
        try (first | exact fp_one (by decide) | refine fp_and (by decide) ?_)
        refine ⟨t + 1, ⟨?_, ?_⟩, by omega, by omega⟩
        · simp only [mx]
          omega
        · rw [w64 (by omega) (by omega)]; simp
      · have e5 : t = 4 := by omega
        subst e5
        have ht := spI_take (a := a) (b := b) (c := c) (l := l) (n := l.length) (i := (i + 1)) (by omega)
        rw [hg] at ht
        simp only [spI_len]
        refine ⟨⟨by omega, by omega⟩, i + 2, ⟨by rw [w64 (by omega) (by omega)]; simp; omega, ?_⟩, by omega, by omega⟩
        simp [ht]
    · rw [List.take_of_length_le (by rw [spI_len]; omega)]
end Go.Proofs.YtgkhakhkebjbpaaEv
namespace Go.Proofs.YtgkhakhkebjbpaaEv
open Go Go.Proofs
set_option maxRecDepth 10000
set_option maxHeartbeats 2000000
section
variable (f a b c : Int) (p : List Int) (f' a' b' c' : Int) (m : List Int) (ink : Int) (hp : p.length ≤ 1048576) (hm : m.length ≤ 1048576)
include hp hm
theorem s_ovp (h1 : okP f a b c p = true) (h2 : okP f' a' b' c' m = true) (h3 : ovOk f a b c f' a' b' c' m ink) : Sp Try.prog 9 [aP f a b c p, aP f' a' b' c' m, vi ink] (.tu [aP f a b c (ovI p m ink p.length), vi 0]) [] := by
  have w1 := s_isP f a b c p hp
  have w2 := s_isP f' a' b' c' m hm
  have w3 := s_isInk ink
  have w4 := s_sameCells f a b c p f' a' b' c' m
  have w5 := s_all m 0 1 hm
  rw [h1] at w1
  rw [h2] at w2
  rw [decide_eq_true h3.1] at w3
  rw [decide_eq_true h3.2.1] at w4
  rw [h3.2.2] at w5
  obtain ⟨_, k2, k3, _⟩ := okP_spec.1 h1
  obtain ⟨_, _, k3', _⟩ := okP_spec.1 h2
  obtain ⟨ha, hc, hb, hac⟩ := okL_spec.1 k2
  have k1 := ac_pos ha.1 hc.1
  have h0 : p ≠ [] := by rintro rfl; simp at k3; omega
  have hl : m.length = p.length := by obtain ⟨_, ⟨rfl, rfl, rfl, rfl⟩, _⟩ := h3; omega
  refine sp_of (m := no) mixed Try.func9 k9 ?_
  simp -dsimp [q]
  refine call_of (w1) rfl (by simp) ?_
  try simp -dsimp
  try (first | exact fp_one (by decide) | refine fp_and (by decide) ?_)
  refine call_of (w2) rfl (by simp) ?_
  try simp -dsimp
  try (first | exact fp_one (by decide) | refine fp_and (by decide) ?_)
  refine call_of (w3) rfl (by simp) ?_
  try simp -dsimp
  try (first | exact fp_one (by decide) | refine fp_and (by decide) ?_)
  refine call_of (w4) rfl (by simp) ?_
  try simp -dsimp
  try (first | exact fp_one (by decide) | refine fp_and (by decide) ?_)
  refine call_of (w5) rfl (by simp) ?_
  try simp -dsimp
  try (first | exact fp_one (by decide) | refine fp_and (by decide) ?_)
  refine call_of (s_overprint f a b c p f' a' b' c' m ink hp h0 hl) rfl (by simp) ?_
  try simp -dsimp
  try (first | exact fp_one (by decide) | refine fp_and (by decide) ?_)
theorem s_ovp_bad (h1 : ¬ (okP f a b c p = true ∧ okP f' a' b' c' m = true)) : Sp Try.prog 9 [aP f a b c p, aP f' a' b' c' m, vi ink] (.tu [aP 0 0 0 0 [], vi 1]) [] := by
  have w1 := s_isP f a b c p hp
  have w2 := s_isP f' a' b' c' m hm
  refine sp_of (m := no) mixed Try.func9 k9 ?_
  simp -dsimp [q]
  cases h : okP f a b c p
  · rw [h] at w1
    refine call_of (w1) rfl (by simp) ?_
    try simp -dsimp
    try (first | exact fp_one (by decide) | refine fp_and (by decide) ?_)
  · rw [h] at w1 h1
    refine call_of (w1) rfl (by simp) ?_
    try simp -dsimp
    try (first | exact fp_one (by decide) | refine fp_and (by decide) ?_)
    have h2 : okP f' a' b' c' m = false := by simpa using h1
    rw [h2] at w2
    refine call_of (w2) rfl (by simp) ?_
    try simp -dsimp
    try (first | exact fp_one (by decide) | refine fp_and (by decide) ?_)
theorem s_ovp_far (h1 : okP f a b c p = true) (h2 : okP f' a' b' c' m = true) (h3 : ¬ ovOk f a b c f' a' b' c' m ink) : Sp Try.prog 9 [aP f a b c p, aP f' a' b' c' m, vi ink] (.tu [aP 0 0 0 0 [], vi 2]) [] := by
  have w1 := s_isP f a b c p hp
  have w2 := s_isP f' a' b' c' m hm
  have w3 := s_isInk ink
  have w4 := s_sameCells f a b c p f' a' b' c' m
  have w5 := s_all m 0 1 hm
  rw [h1] at w1
  rw [h2] at w2
  refine sp_of (m := no) mixed Try.func9 k9 ?_
  simp -dsimp [q]
  refine call_of (w1) rfl (by simp) ?_
  try simp -dsimp
  try (first | exact fp_one (by decide) | refine fp_and (by decide) ?_)
  refine call_of (w2) rfl (by simp) ?_
  try simp -dsimp
  try (first | exact fp_one (by decide) | refine fp_and (by decide) ?_)
  by_cases e1 : 1 ≤ ink ∧ ink ≤ 9
  case neg =>
    rw [decide_eq_false e1] at w3
    refine call_of (w3) rfl (by simp) ?_
    try simp -dsimp
    try (first | exact fp_one (by decide) | refine fp_and (by decide) ?_)
  rw [decide_eq_true e1] at w3
  refine call_of (w3) rfl (by simp) ?_
  try simp -dsimp
  try (first | exact fp_one (by decide) | refine fp_and (by decide) ?_)
  by_cases e2 : f = f' ∧ a = a' ∧ b = b' ∧ c = c'
  case neg =>
    rw [decide_eq_false e2] at w4
    refine call_of (w4) rfl (by simp) ?_
    try simp -dsimp
    try (first | exact fp_one (by decide) | refine fp_and (by decide) ?_)
  rw [decide_eq_true e2] at w4
  refine call_of (w4) rfl (by simp) ?_
  try simp -dsimp
  try (first | exact fp_one (by decide) | refine fp_and (by decide) ?_)
  have e3 : (m.all fun n => decide (0 ≤ n ∧ n ≤ 1)) = false := by
    rw [Bool.eq_false_iff]; exact fun e => h3 ⟨e1, e2, e⟩
  rw [e3] at w5
  refine call_of (w5) rfl (by simp) ?_
  try simp -dsimp
  try (first | exact fp_one (by decide) | refine fp_and (by decide) ?_)
theorem s_sovp (h1 : okP f a b c p = true) (h2 : okP f' a' b' c' m = true) (h3 : ovOk f a b c f' a' b' c' m ink) : Sp Try.prog 10 [aP f a b c p, aP f' a' b' c' m, vi ink] (.tu [aP f a b c (ovI p m ink p.length), vi 0]) [] := by
  have w1 := s_sisP f a b c p hp
  have w2 := s_sisP f' a' b' c' m hm
  have w3 := s_in ink 1 9
  have w5 := s_sall m 64 0 1 hm
  rw [h1] at w1
  rw [h2] at w2
  rw [decide_eq_true h3.1] at w3
  obtain ⟨_, k2, k3, _⟩ := okP_spec.1 h1
  obtain ⟨_, _, k3', _⟩ := okP_spec.1 h2
  obtain ⟨ha, hc, hb, hac⟩ := okL_spec.1 k2
  have k1 := ac_pos ha.1 hc.1
  obtain ⟨_, ⟨rfl, rfl, rfl, rfl⟩, h4⟩ := h3
  rw [h4, decide_eq_true (show (m.length : Int) ≤ 64 by omega)] at w5
  have hl : m.length = p.length := by omega
  have w6 := s_over f a b c p f a b c m ink 0 0 k2 k3 hl (by decide) (by decide)
  rw [ovS_zero (by omega) k3] at w6
  refine sp_of (m := no) mixed Try.func10 k10 ?_
  simp -dsimp [q, cdec_eq]
  refine call_of (w1) rfl (by simp) ?_
  try simp -dsimp
  try (first | exact fp_one (by decide) | refine fp_and (by decide) ?_)
  refine call_of (w2) rfl (by simp) ?_
  try simp -dsimp
  try (first | exact fp_one (by decide) | refine fp_and (by decide) ?_)
  refine call_of (w3) rfl (by simp) ?_
  try simp -dsimp
  try (first | exact fp_one (by decide) | refine fp_and (by decide) ?_)
  refine call_of (w5) rfl (by simp) ?_
  try simp -dsimp
  try (first | exact fp_one (by decide) | refine fp_and (by decide) ?_)
  refine call_of (w6) rfl (by simp) ?_
  try simp -dsimp
  try (first | exact fp_one (by decide) | refine fp_and (by decide) ?_)
theorem s_sovp_bad (h1 : ¬ (okP f a b c p = true ∧ okP f' a' b' c' m = true)) : Sp Try.prog 10 [aP f a b c p, aP f' a' b' c' m, vi ink] (.tu [aP 0 0 0 0 [], vi 1]) [] := by
  have w1 := s_sisP f a b c p hp
  have w2 := s_sisP f' a' b' c' m hm
  refine sp_of (m := no) mixed Try.func10 k10 ?_
  simp -dsimp [q]
  cases h : okP f a b c p
  · rw [h] at w1
    refine call_of (w1) rfl (by simp) ?_
    try simp -dsimp
    try (first | exact fp_one (by decide) | refine fp_and (by decide) ?_)
  · rw [h] at w1 h1
    refine call_of (w1) rfl (by simp) ?_
    try simp -dsimp
    try (first | exact fp_one (by decide) | refine fp_and (by decide) ?_)
    have h2 : okP f' a' b' c' m = false := by simpa using h1
    rw [h2] at w2
    refine call_of (w2) rfl (by simp) ?_
    try simp -dsimp
    try (first | exact fp_one (by decide) | refine fp_and (by decide) ?_)
theorem s_sovp_far (h1 : okP f a b c p = true) (h2 : okP f' a' b' c' m = true) (h3 : ¬ ovOk f a b c f' a' b' c' m ink) : Sp Try.prog 10 [aP f a b c p, aP f' a' b' c' m, vi ink] (.tu [aP 0 0 0 0 [], vi 2]) [] := by
  have w1 := s_sisP f a b c p hp
  have w2 := s_sisP f' a' b' c' m hm
  have w3 := s_in ink 1 9
  have w5 := s_sall m 64 0 1 hm
  rw [h1] at w1
  rw [h2] at w2
  refine sp_of (m := no) mixed Try.func10 k10 ?_
  simp -dsimp [q, cdec_eq]
  refine call_of (w1) rfl (by simp) ?_
  try simp -dsimp
  try (first | exact fp_one (by decide) | refine fp_and (by decide) ?_)
  refine call_of (w2) rfl (by simp) ?_
  try simp -dsimp
  try (first | exact fp_one (by decide) | refine fp_and (by decide) ?_)
  by_cases e1 : 1 ≤ ink ∧ ink ≤ 9
  case neg =>
    rw [decide_eq_false e1] at w3
    refine call_of (w3) rfl (by simp) ?_
    try simp -dsimp
    try (first | exact fp_one (by decide) | refine fp_and (by decide) ?_)
  rw [decide_eq_true e1] at w3
  refine call_of (w3) rfl (by simp) ?_
  try simp -dsimp
  try (first | exact fp_one (by decide) | refine fp_and (by decide) ?_)
  by_cases e0 : f' = f
  case neg => exact fun e => absurd e e0
  by_cases e2 : a' = a ∧ b' = b ∧ c' = c
  case neg => exact fun _ x1 x2 x3 => absurd ⟨x1, x2, x3⟩ e2
  obtain ⟨rfl, rfl, rfl⟩ := e2
  subst e0
  have e3 : (m.all fun n => decide (0 ≤ n ∧ n ≤ 1)) = false := by
    rw [Bool.eq_false_iff]; exact fun e => h3 ⟨e1, ⟨rfl, rfl, rfl, rfl⟩, e⟩
  rw [e3] at w5
  intro _ _ _ _
  refine call_of (w5) rfl (by simp) ?_
  try simp -dsimp
  try (first | exact fp_one (by decide) | refine fp_and (by decide) ?_)
end
theorem s_spSp (f a b c : Int) (l : List Int) (h1 : okP f a b c l = true) (h2 : (l.all fun n => decide (0 ≤ n ∧ n ≤ 1)) = true) (hl : l.length ≤ 1048576) : Sp Try.prog 13 [aP f a b c l] (.tu [aP f a b c (spI a b c l l.length), vi 0]) [] := by
  obtain ⟨_, k2, k3, _⟩ := okP_spec.1 h1
  obtain ⟨ha, hc, hb, hac⟩ := okL_spec.1 k2
  have w1 := s_sall l 64 0 1 hl
  rw [h2, decide_eq_true (show (l.length : Int) ≤ 64 by omega)] at w1
  have w2 := s_scode25 f a b c l true hl
  rw [if_pos h1, if_pos rfl] at w2
  obtain ⟨N, hN, hst, w3⟩ := s_st21
  have h01 : ∀ x ∈ l, 0 ≤ x ∧ x ≤ 1 := fun x hx => of_decide_eq_true (List.all_eq_true.1 h2 x hx)
  have hso := so_sp (b := b) (show 0 < a by omega) (show 0 < c by omega) k3 h01
  refine sp_of (m := no) mixed Try.func13 k13 ?_
  simp -dsimp [q]
  refine call_of (w1) rfl (by simp) ?_
  try simp -dsimp
  try (first | exact fp_one (by decide) | refine fp_and (by decide) ?_)
  refine call_of (w2) rfl (by simp) ?_
  try simp -dsimp
  try (first | exact fp_one (by decide) | refine fp_and (by decide) ?_)
  refine call_of (w3) rfl (by simp) ?_
  try simp -dsimp
  try (first | exact fp_one (by decide) | refine fp_and (by decide) ?_)
  refine awp_it (false :: true :: true :: false :: false :: true :: true :: true :: []) (fun k : Nat => [(7, vi k)]) (fun k => [(2, .box [vi f, vi a, vi b, vi c, .v (vis (soL a b c l k))])]) (fun k => k ≤ 4) (fun k => 4 - k) 0 ?_
  intro s0 e
  simp -dsimp at e
  subst e
  refine ⟨?_, ?_⟩
  · simp [soL]
  intro k hk
  simp -dsimp
  refine ⟨fun h3 => ⟨by omega, fun u v huv => ?_⟩, fun h3 => ?_⟩
  · have he := hst k u v huv
    have hu : u.natAbs ≤ 1000 ∧ v.natAbs ≤ 1000 := by
      match k, he with
      | 0, he => cases he; decide
      | 1, he => cases he; decide
      | 2, he => cases he; decide
      | (n + 3), he => cases he; decide
    have w4 := s_overP f a b c (soL a b c l k) f a b c l 1 u v k2 (by rw [soL_len]; exact k3) (by rw [soL_len]) hu.1 hu.2
    rw [soL_len, show ovS a b c u v (soL a b c l k) l 1 l.length = soL a b c l (k + 1) by rw [soL, ← he]] at w4
    refine call_of (w4) rfl (by simp) ?_
    try simp -dsimp
    try (first | exact fp_one (by decide) | refine fp_and (by decide) ?_)
    exact ⟨k + 1, by rw [w64 (by omega) (by omega)]; simp, by omega, by omega⟩
  · rw [show k = 4 by omega, hso]
    have w5 := s_own (spI a b c l l.length) (by rw [spI_len]; exact hl)
    refine call_of (w5) rfl (by simp) ?_
    try simp -dsimp
    try (first | exact fp_one (by decide) | refine fp_and (by decide) ?_)
theorem s_spSp_bad (f a b c : Int) (l : List Int) (k : Int) (h : ¬ (okP f a b c l = true ∧ (l.all fun n => decide (0 ≤ n ∧ n ≤ 1)) = true)) (hk : k = if okP f a b c l = true then 2 else 1) (hl : l.length ≤ 1048576) : Sp Try.prog 13 [aP f a b c l] (.tu [aP 0 0 0 0 [], vi k]) [] := by
  have w1 := s_sall l 64 0 1 hl
  have w2 := s_scode25 f a b c l ((l.all fun n => decide (0 ≤ n ∧ n ≤ 1)) && decide ((l.length : Int) ≤ 64)) hl
  have e : (if okP f a b c l = true then if ((l.all fun n => decide (0 ≤ n ∧ n ≤ 1)) && decide ((l.length : Int) ≤ 64)) = true then (0 : Int) else 2 else 1) = k := by
    rw [hk]
    split
    · next h1 => rw [if_neg (by rw [Bool.and_eq_true]; exact fun h2 => h ⟨h1, h2.1⟩)]
    · rfl
  rw [e] at w2
  have hk0 : k ≠ 0 := by rw [hk]; split <;> decide
  generalize ((l.all fun n => decide (0 ≤ n ∧ n ≤ 1)) && decide ((l.length : Int) ≤ 64)) = T at *
  refine sp_of (m := no) mixed Try.func13 k13 ?_
  simp -dsimp [q]
  refine call_of (w1) rfl (by simp) ?_
  try simp -dsimp
  try (first | exact fp_one (by decide) | refine fp_and (by decide) ?_)
  refine call_of (w2) rfl (by simp) ?_
  try simp -dsimp
  try (first | exact fp_one (by decide) | refine fp_and (by decide) ?_)
  exact fun h => absurd h hk0
theorem s_spIp_bad (f a b c : Int) (l : List Int) (h1 : okP f a b c l = false) (hl : l.length ≤ 1048576) : Sp Try.prog 12 [aP f a b c l] (.tu [aP 0 0 0 0 [], vi 1]) [] := by
  have w1 := s_isP f a b c l hl
  rw [h1] at w1
  refine sp_of (m := no) mixed Try.func12 k12 ?_
  simp -dsimp [q]
  refine call_of (w1) rfl (by simp) ?_
  try simp -dsimp
  try (first | exact fp_one (by decide) | refine fp_and (by decide) ?_)
theorem s_spIp_far (f a b c : Int) (l : List Int) (h1 : okP f a b c l = true) (h2 : (l.all fun n => decide (0 ≤ n ∧ n ≤ 1)) = false) (hl : l.length ≤ 1048576) : Sp Try.prog 12 [aP f a b c l] (.tu [aP 0 0 0 0 [], vi 2]) [] := by
  have w1 := s_isP f a b c l hl
  rw [h1] at w1
  have w2 := s_all l 0 1 hl
  rw [h2] at w2
  refine sp_of (m := no) mixed Try.func12 k12 ?_
  simp -dsimp [q]
  refine call_of (w1) rfl (by simp) ?_
  try simp -dsimp
  try (first | exact fp_one (by decide) | refine fp_and (by decide) ?_)
  refine call_of (w2) rfl (by simp) ?_
  try simp -dsimp
  try (first | exact fp_one (by decide) | refine fp_and (by decide) ?_)
theorem s_spIp (f a b c : Int) (l : List Int) (h1 : okP f a b c l = true) (h2 : (l.all fun n => decide (0 ≤ n ∧ n ≤ 1)) = true) (hl : l.length ≤ 1048576) : Sp Try.prog 12 [aP f a b c l] (.tu [aP f a b c (spI a b c l l.length), vi 0]) [] := by
  have w1 := s_isP f a b c l hl
  rw [h1] at w1
  have w2 := s_all l 0 1 hl
  rw [h2] at w2
  obtain ⟨_, k2, k3, _⟩ := okP_spec.1 h1
  obtain ⟨ha, hc, hb, hac⟩ := okL_spec.1 k2
  have hp := ac_pos ha.1 hc.1
  have hn := nat_n ha.1 hc.1 k3
  have w3 := s_cells a b c ha hc
  have h0 : l ≠ [] := by rintro rfl; simp at k3; omega
  refine sp_of (m := no) mixed Try.func12 k12 ?_
  simp -dsimp [q]
  refine call_of (w1) rfl (by simp) ?_
  try simp -dsimp
  try (first | exact fp_one (by decide) | refine fp_and (by decide) ?_)
  refine call_of (w2) rfl (by simp) ?_
  try simp -dsimp
  try (first | exact fp_one (by decide) | refine fp_and (by decide) ?_)
  refine call_of (w3) rfl (by simp) ?_
  try simp -dsimp
  try (first | exact fp_one (by decide) | refine fp_and (by decide) ?_)
  refine awp_it (false :: true :: true :: false :: true :: false :: false :: false :: false :: false :: false :: false :: false :: false :: false :: false :: false :: false :: false :: false :: false :: false :: false :: false :: false :: false :: true :: true :: true :: []) (fun i : Nat => [(28, vi i)]) (fun i => match i with | 0 => [] | i + 1 => [(2, .box [vi f, vi a, vi b, vi c, .sli 4]), (4, .row 0 2 (is ((spI a b c l l.length).take (i + 1))))]) (fun i => i ≤ l.length) (fun i => l.length - i) 0 ?_
  intro s0 e
  simp -dsimp at e
  subst e
  refine ⟨?_, ?_⟩
  · simp
  intro i hi
  cases i with
  | zero =>
    simp -dsimp [cellsL_len, hn]
    refine ⟨fun h4 => ⟨h4, fun x y hxy => ⟨by omega, fun z hz => ?_⟩⟩, fun h4 => absurd h4 h0⟩
    obtain ⟨⟨k1, k2'⟩, k3', _⟩ := cell_of ha.1 hc.1 hxy
    obtain ⟨N, hN, hst, w4⟩ := s_nbN x y (by omega) (by omega)
    have hg : l.getD 0 0 = z := by simp [hz]
    refine call_of (w4) rfl (by simp) ?_
    try simp -dsimp
    try (first | exact fp_one (by decide) | refine fp_and (by decide) ?_)
    refine awp_it (false :: true :: true :: false :: true :: false :: false :: true :: false :: false :: false :: false :: false :: false :: false :: false :: false :: false :: false :: false :: false :: false :: false :: false :: false :: false :: true :: true :: true :: false :: false :: false :: false :: false :: false :: false :: false :: false :: false :: true :: true :: true :: []) (fun t : Nat => [(7, vi (mx (nbG a b c l 0) z t)), (41, vi t)]) (fun t => []) (fun t => t ≤ 4) (fun t => 4 - t) 0 ?_
    intro s0 e
    simp -dsimp at e
    subst e
    refine ⟨?_, ?_⟩
    · simp [mx]
    intro t ht
    simp -dsimp [hN]
    refine ⟨fun h5 => ⟨by omega, fun u v huv => ?_⟩, fun h5 => ?_⟩
    · obtain ⟨e1, e2, e3⟩ := hst t u v huv
      have hs : (stN t).1.natAbs ≤ 1 ∧ (stN t).2.natAbs ≤ 1 := by
        match t with
        | 0 => decide
        | 1 => decide
        | 2 => decide
        | (n + 3) => exact (by decide : (0 : Int).natAbs ≤ 1 ∧ (-1 : Int).natAbs ≤ 1)
      have e4 : l.getD (num a b c u v).toNat 0 = nbG a b c l 0 t := by
        rw [nbG, k3' b (stN t).1 (stN t).2, e2, e3]
      have w5 := s_at f a b c u v l h1 (by omega) (by omega)
      rw [e4] at w5
      refine call_of (w5) rfl (by simp) ?_
      try simp -dsimp
      try (first | exact fp_one (by decide) | refine fp_and (by decide) ?_)
      refine ⟨t + 1, ⟨?_, ?_⟩, by omega, by omega⟩
      · simp only [mx]
        omega
      · rw [w64 (by omega) (by omega)]; simp
    · have e5 : t = 4 := by omega
      subst e5
      have ht := spI_take (a := a) (b := b) (c := c) (l := l) (n := l.length) (i := 0) (by omega)
      rw [hg] at ht
      simp at ht
      exact ⟨1, by rw [w64 (by omega) (by omega)]; simp [ht], by omega, by omega⟩
  | succ i =>
    simp -dsimp [cellsL_len, hn, spI_len]
    refine ⟨fun h4 => ⟨⟨by omega, by omega⟩, by omega, fun x y hxy => ⟨⟨by omega, by omega⟩, fun z hz => ?_⟩⟩, fun h4 => ?_⟩
    · obtain ⟨⟨k1, k2'⟩, k3', _⟩ := cell_of ha.1 hc.1 hxy
      obtain ⟨N, hN, hst, w4⟩ := s_nbN x y (by omega) (by omega)
      have hg : l.getD (i + 1) 0 = z := by simp [hz]
      refine call_of (w4) rfl (by simp) ?_
      try simp -dsimp
      try (first | exact fp_one (by decide) | refine fp_and (by decide) ?_)
      refine awp_it (false :: true :: true :: false :: true :: false :: false :: true :: false :: false :: false :: false :: false :: false :: false :: false :: false :: false :: false :: false :: false :: false :: false :: false :: false :: false :: true :: true :: true :: false :: false :: false :: false :: false :: false :: false :: false :: false :: false :: true :: true :: true :: []) (fun t : Nat => [(7, vi (mx (nbG a b c l (i + 1)) z t)), (41, vi t)]) (fun t => []) (fun t => t ≤ 4) (fun t => 4 - t) 0 ?_
      intro s0 e
      simp -dsimp at e
      subst e
      refine ⟨?_, ?_⟩
      · simp [mx]
      intro t ht
      simp -dsimp [hN]
      refine ⟨fun h5 => ⟨by omega, fun u v huv => ?_⟩, fun h5 => ?_⟩
      · obtain ⟨e1, e2, e3⟩ := hst t u v huv
        have hs : (stN t).1.natAbs ≤ 1 ∧ (stN t).2.natAbs ≤ 1 := by
          match t with
          | 0 => decide
          | 1 => decide
          | 2 => decide
          | (n + 3) => exact (by decide : (0 : Int).natAbs ≤ 1 ∧ (-1 : Int).natAbs ≤ 1)
        have e4 : l.getD (num a b c u v).toNat 0 = nbG a b c l (i + 1) t := by
          rw [nbG, k3' b (stN t).1 (stN t).2, e2, e3]
        have w5 := s_at f a b c u v l h1 (by omega) (by omega)
        rw [e4] at w5
        refine call_of (w5) rfl (by simp) ?_
        try simp -dsimp
        try (first | exact fp_one (by decide) | refine fp_and (by decide) ?_)
        refine ⟨t + 1, ⟨?_, ?_⟩, by omega, by omega⟩
        · simp only [mx]
          omega
        · rw [w64 (by omega) (by omega)]; simp
      · have e5 : t = 4 := by omega
        subst e5
        have ht := spI_take (a := a) (b := b) (c := c) (l := l) (n := l.length) (i := (i + 1)) (by omega)
        rw [hg] at ht
        simp only [spI_len]
        refine ⟨⟨by omega, by omega⟩, i + 2, ⟨by rw [w64 (by omega) (by omega)]; simp; omega, ?_⟩, by omega, by omega⟩
        simp [ht]
    · rw [List.take_of_length_le (by rw [spI_len]; omega)]
theorem overs (f a b c : Int) (p : List Int) (f' a' b' c' : Int) (m : List Int) (ink : Int) (hp : p.length ≤ 1048576) (hm : m.length ≤ 1048576) : ∃ F A' B C r k, r.length ≤ 1048576 ∧ Sp Try.prog 9 [aP f a b c p, aP f' a' b' c' m, vi ink] (.tu [aP F A' B C r, vi k]) [] ∧ Sp Try.prog 10 [aP f a b c p, aP f' a' b' c' m, vi ink] (.tu [aP F A' B C r, vi k]) [] := by
  by_cases h1 : okP f a b c p = true ∧ okP f' a' b' c' m = true
  case neg => exact ⟨_, _, _, _, _, _, by simp, s_ovp_bad _ _ _ _ _ _ _ _ _ _ _ hp hm h1, s_sovp_bad _ _ _ _ _ _ _ _ _ _ _ hp hm h1⟩
  by_cases h3 : ovOk f a b c f' a' b' c' m ink
  · exact ⟨_, _, _, _, _, _, by rw [setN_len]; exact hp, s_ovp _ _ _ _ _ _ _ _ _ _ _ hp hm h1.1 h1.2 h3, s_sovp _ _ _ _ _ _ _ _ _ _ _ hp hm h1.1 h1.2 h3⟩
  · exact ⟨_, _, _, _, _, _, by simp, s_ovp_far _ _ _ _ _ _ _ _ _ _ _ hp hm h1.1 h1.2 h3, s_sovp_far _ _ _ _ _ _ _ _ _ _ _ hp hm h1.1 h1.2 h3⟩
theorem spreads (f a b c : Int) (l : List Int) (hl : l.length ≤ 1048576) : ∃ F A' B C r k, r.length ≤ 1048576 ∧ (k = 0 → r.length = l.length ∧ ∀ (j : Nat) (x y : Int), l[j]? = some x → r[j]? = some y → x ≤ y) ∧ Sp Try.prog 12 [aP f a b c l] (.tu [aP F A' B C r, vi k]) [] ∧ Sp Try.prog 13 [aP f a b c l] (.tu [aP F A' B C r, vi k]) [] := by
  by_cases h1 : okP f a b c l = true
  case neg =>
    simp only [Bool.not_eq_true] at h1
    exact ⟨_, _, _, _, _, 1, by simp, fun h => absurd h (by decide), s_spIp_bad _ _ _ _ _ h1 hl, s_spSp_bad _ _ _ _ _ 1 (by rw [h1]; simp) (by rw [h1]; simp) hl⟩
  by_cases h2 : (l.all fun n => decide (0 ≤ n ∧ n ≤ 1)) = true
  case neg => exact ⟨_, _, _, _, _, 2, by simp, fun h => absurd h (by decide), s_spIp_far _ _ _ _ _ h1 (by simpa only [Bool.not_eq_true] using h2) hl, s_spSp_bad _ _ _ _ _ 2 (fun h => h2 h.2) (by rw [if_pos h1]) hl⟩
  exact ⟨_, _, _, _, _, _, by rw [spI_len]; exact hl, fun _ => ⟨spI_len, fun j x y hx hy => sp_ge hx hy⟩, s_spIp _ _ _ _ _ h1 h2 hl, s_spSp _ _ _ _ _ h1 h2 hl⟩
end Go.Proofs.YtgkhakhkebjbpaaEv
namespace Go.Proofs.YtgkhakhkebjbpaaEv
open Go Go.Proofs
set_option maxRecDepth 10000
set_option maxHeartbeats 2000000
end Go.Proofs.YtgkhakhkebjbpaaEv
namespace Go.Proofs.YtgkhakhkebjbpaaEv
open Go Go.Proofs
set_option maxRecDepth 10000
set_option maxHeartbeats 2000000
theorem mvI_zero {a b c : Int} {l : List Int} (hc : 0 < c) (hl : (l.length : Int) = a * c) : mvI a b c 0 0 l l.length = l := by
  apply List.ext_getElem?
  intro j
  by_cases hj : j < l.length
  · have h := num_cell (a := a) (b := b) hc (k := j) (by omega)
    have e : mv a b c 0 0 j = j := by
      unfold mv
      simp only [Int.add_zero]
      rw [h]
      simp
    simp [hj, e]
  · rw [List.getElem?_eq_none (by rw [mvI_len]; omega), List.getElem?_eq_none (by omega)]
def capC (k : Int) (x : Int) : Int := if x ≤ k then x else 0
theorem prL_zero {a b c : Int} {l : List Int} (hc : 0 < c) (hl : (l.length : Int) = a * c) (h0 : ∀ x ∈ l, 0 ≤ x ∧ x ≤ 9) : ∀ k : Nat, k ≤ 9 → prL a b c l (List.replicate 9 (0, 0)) k = l.map (capC k)
  | 0, _ => by
    unfold prL
    apply List.ext_getElem?
    intro j
    by_cases hj : j < l.length
    · have hx := h0 l[j] (List.getElem_mem hj)
      simp only [List.getElem?_replicate, hj, if_true, List.getElem?_map, List.getElem?_eq_getElem, Option.map_some, capC]
      split
      · congr 1
        omega
      · rfl
    · rw [List.getElem?_eq_none (by simp; omega), List.getElem?_eq_none (by simp; omega)]
  | k + 1, hk => by
    have ih := prL_zero (a := a) (b := b) hc hl h0 k (by omega)
    have e0 : (List.replicate 9 ((0 : Int), (0 : Int))).getD k (0, 0) = (0, 0) := by
      rw [List.getD_eq_getElem?_getD, List.getElem?_replicate]
      split <;> rfl
    have em : mvI a b c 0 0 (maskL l ((k : Int) + 1)) l.length = maskL l ((k : Int) + 1) := by
      have := mvI_zero (a := a) (b := b) (l := maskL l ((k : Int) + 1)) hc (by rw [maskL_len]; exact hl)
      rwa [maskL_len] at this
    unfold prL
    rw [ih, e0, em]
    apply List.ext_getElem?
    intro j
    by_cases hj : j < l.length
    · rw [setN_get (i := j) (m := l.length) (by simpa using hj) hj (fun k _ => Iff.rfl) l.length (Nat.le_refl _)]
      have hx := h0 l[j] (List.getElem_mem hj)
      have hg : (maskL l ((k : Int) + 1)).getD j 0 = if l[j] = (k : Int) + 1 then 1 else 0 := by
        simp [maskL, hj]
      simp only [hj, true_and, decide_eq_true_eq, hg, List.getElem?_map, List.getElem?_eq_getElem, Option.map_some]
      by_cases hxe : l[j] = (k : Int) + 1
      · rw [if_pos (by rw [if_pos hxe])]
        simp [capC, hxe]
      · rw [if_neg (by rw [if_neg hxe]; decide)]
        congr 1
        unfold capC
        by_cases h2 : l[j] ≤ (k : Int)
        · rw [if_pos h2, if_pos (by omega)]
        · rw [if_neg h2, if_neg (by omega)]
    · rw [List.getElem?_eq_none (by rw [setN_len]; simp; omega), List.getElem?_eq_none (by simp; omega)]
theorem prL_same {a b c : Int} {l : List Int} (hc : 0 < c) (hl : (l.length : Int) = a * c) (h0 : ∀ x ∈ l, 0 ≤ x ∧ x ≤ 9) : prL a b c l (List.replicate 9 (0, 0)) 9 = l := by
  rw [prL_zero hc hl h0 9 (Nat.le_refl _)]
  conv => rhs; rw [← List.map_id l]
  refine List.map_congr_left fun x hx => ?_
  have := h0 x hx
  unfold capC
  rw [if_pos (by omega)]
  rfl
theorem gapL_same (l : List Int) : ∀ n, gapL l l n = 0
  | 0 => rfl
  | n + 1 => by
    rw [gapL, gapL_same l n, if_neg (fun h => h.2 h.1)]
    rfl
theorem s_likeI (xs ys : List Int) (hx : xs.length ≤ 1048576) : Sp Try.prog 41 [.v (vis xs), .v (vis ys)] (vb (decide (xs = ys))) [] := by
  refine sp_of (m := no) mixed Try.func41 k41 ?_
  simp -dsimp [q]
  refine ⟨fun h e => h (by rw [e]), fun hl => ?_⟩
  refine awp_it (true :: true :: false :: false :: false :: true :: []) (fun i : Nat => [(5, vi i)]) (fun i => []) (fun i => i ≤ xs.length ∧ xs.take i = ys.take i) (fun i => xs.length - i) 0 ?_
  intro s0 e
  simp -dsimp at e
  subst e
  refine ⟨?_, ?_⟩
  · simp
  intro i hi
  simp -dsimp
  obtain ⟨hi, ht⟩ := hi
  refine ⟨fun h1 => ⟨h1, fun x hx' => ⟨by omega, fun y hy => ⟨fun hne e => ?_, fun e => ⟨i + 1, by rw [w64 (by omega) (by omega)]; simp, ⟨by omega, ?_⟩, by omega⟩⟩⟩⟩, fun h1 => ?_⟩
  · rw [e] at hx'
    rw [hx'] at hy
    cases hy
    exact hne rfl
  · subst e
    rw [List.take_add_one, List.take_add_one, ht, hx', hy]
  · have h2 : i = xs.length := by omega
    subst h2
    rw [List.take_length, List.take_of_length_le (by omega)] at ht
    try exact ht
theorem s_likeP (f a b c : Int) (l : List Int) (f' a' b' c' : Int) (l' : List Int) (hl : l.length ≤ 1048576) : Sp Try.prog 16 [aP f a b c l, aP f' a' b' c' l'] (vb (decide (f = f' ∧ (a = a' ∧ b = b' ∧ c = c') ∧ l = l'))) [] := by
  have w := s_likeI l l' hl
  by_cases h1 : f = f'
  case neg =>
    rw [decide_eq_false (fun h => h1 h.1)]
    refine sp_of (m := no) mixed Try.func16 k16 ?_
    simp -dsimp [q, h1]
  by_cases h2 : a = a' ∧ b = b' ∧ c = c'
  case neg =>
    rw [decide_eq_false (fun h => h2 h.2.1)]
    refine sp_of (m := no) mixed Try.func16 k16 ?_
    simp -dsimp [q, h1]
    exact fun e1 e2 e3 => absurd ⟨e1, e2, e3⟩ h2
  obtain ⟨rfl, rfl, rfl⟩ := h2
  subst h1
  have e : decide (f = f ∧ (a = a ∧ b = b ∧ c = c) ∧ l = l') = decide (l = l') := by simp
  rw [e]
  generalize decide (l = l') = T at *
  refine sp_of (m := no) mixed Try.func16 k16 ?_
  simp -dsimp [q]
  refine call_of (w) rfl (by simp) ?_
  try simp -dsimp
  try (first | exact fp_one (by decide) | refine fp_and (by decide) ?_)
end Go.Proofs.YtgkhakhkebjbpaaEv
namespace Go.Proofs.YtgkhakhkebjbpaaEv
open Go Go.Proofs
set_option maxRecDepth 10000
set_option maxHeartbeats 2000000
theorem s_big (l : List Int) : Sp Try.prog 4 [.v (cdV l)] (vb (decide ((4096 : Int) < l.length))) [] := by
  refine sp_of (m := no) mixed Try.func4 k4 ?_
  simp -dsimp [q]
theorem u8_wf {y : Int} (h : (Lit.int .u8 y).wf = true) : 0 ≤ y ∧ y < 256 := by
  have h2 : (Lit.int .u8 y).wf = (decide (0 ≤ y) && decide (y ≤ 255)) := rfl
  rw [h2, Bool.and_eq_true, decide_eq_true_eq, decide_eq_true_eq] at h
  omega
theorem masks (f a b c : Int) (l : List Int) (ink : Int) (hl : l.length ≤ 1048576) :
    ((okP f a b c l = true ∧ (1 ≤ ink ∧ ink ≤ 9)) ∧ Sp Try.prog 6 [aP f a b c l, vi ink] (.tu [aP f a b c (maskL l ink), vi 0]) [] ∧ Sp Try.prog 7 [aP f a b c l, vi ink] (.tu [aP f a b c (maskL l ink), vi 0]) [] ∧
      Sp Try.prog 14 [aP f a b c l, vi ink] (.tu [vi ((1000 * cntA l ink).tdiv l.length), vi 0]) [] ∧ Sp Try.prog 15 [aP f a b c l, vi ink] (.tu [vi ((1000 * cntA l ink).tdiv l.length), vi 0]) []) ∨
    ∃ k, k ≠ 0 ∧ Sp Try.prog 6 [aP f a b c l, vi ink] (.tu [zP, vi k]) [] ∧ Sp Try.prog 7 [aP f a b c l, vi ink] (.tu [zP, vi k]) [] ∧
      Sp Try.prog 14 [aP f a b c l, vi ink] (.tu [vi 0, vi k]) [] ∧ Sp Try.prog 15 [aP f a b c l, vi ink] (.tu [vi 0, vi k]) [] := by
  by_cases h1 : okP f a b c l = true
  case neg =>
    simp only [Bool.not_eq_true] at h1
    exact .inr ⟨1, by decide, s_mO_bad _ _ _ _ _ _ h1 hl, s_smO_bad _ _ _ _ _ _ 1 (by rw [h1]; simp) (by rw [h1]; simp) hl, s_isr_bad _ _ _ _ _ _ h1 hl, s_sisr_bad _ _ _ _ _ _ 1 (by rw [h1]; simp) (by rw [h1]; simp) hl⟩
  by_cases h2 : 1 ≤ ink ∧ ink ≤ 9
  case neg => exact .inr ⟨2, by decide, s_mO_far _ _ _ _ _ _ h1 h2 hl, s_smO_bad _ _ _ _ _ _ 2 (fun h => h2 h.2) (by rw [if_pos h1]) hl, s_isr_far _ _ _ _ _ _ h1 h2 hl, s_sisr_bad _ _ _ _ _ _ 2 (fun h => h2 h.2) (by rw [if_pos h1]) hl⟩
  exact .inl ⟨⟨h1, h2⟩, s_mO _ _ _ _ _ _ h1 h2 hl, s_smO _ _ _ _ _ _ h1 h2 hl, s_isr _ _ _ _ _ _ h1 h2 hl, s_sisr _ _ _ _ _ _ h1 h2 hl⟩
def capL (l : List Int) (n : Nat) : List Int := l.map (capC n)
theorem capL_len (l : List Int) (n : Nat) : (capL l n).length = l.length := by simp [capL]
theorem okP_cap {f a b c : Int} {l : List Int} (n : Nat) (h : okP f a b c l = true) : okP f a b c (capL l n) = true := by
  rw [okP_spec] at h ⊢
  refine ⟨h.1, h.2.1, by rw [capL_len]; exact h.2.2.1, fun y hy => ?_⟩
  obtain ⟨x, hx, rfl⟩ := List.mem_map.1 hy
  have := h.2.2.2 x hx
  unfold capC
  split <;> omega
theorem cap_step {a b c : Int} {l : List Int} (hc : 0 < c) (hl : (l.length : Int) = a * c) (h0 : ∀ x ∈ l, 0 ≤ x ∧ x ≤ 9) (n : Nat) (hn : n < 9) : ovI (capL l n) (maskL l ((n : Int) + 1)) ((n : Int) + 1) (capL l n).length = capL l (n + 1) := by
  have h1 := prL_zero (a := a) (b := b) hc hl h0 n (by omega)
  have h2 := prL_zero (a := a) (b := b) hc hl h0 (n + 1) (by omega)
  have e0 : (List.replicate 9 ((0 : Int), (0 : Int))).getD n (0, 0) = (0, 0) := by
    rw [List.getD_eq_getElem?_getD, List.getElem?_replicate]
    split <;> rfl
  have em : mvI a b c 0 0 (maskL l ((n : Int) + 1)) l.length = maskL l ((n : Int) + 1) := by
    have := mvI_zero (a := a) (b := b) (l := maskL l ((n : Int) + 1)) hc (by rw [maskL_len]; exact hl)
    rwa [maskL_len] at this
  rw [capL_len]
  unfold prL at h2
  rw [h1, e0, em] at h2
  exact h2
theorem cap_nine {l : List Int} (h0 : ∀ x ∈ l, 0 ≤ x ∧ x ≤ 9) : capL l 9 = l := by
  unfold capL
  conv => rhs; rw [← List.map_id l]
  refine List.map_congr_left fun x hx => ?_
  have := h0 x hx
  unfold capC
  rw [if_pos (by omega)]
  rfl
theorem cap_zero {l : List Int} (h0 : ∀ x ∈ l, 0 ≤ x ∧ x ≤ 9) : capL l 0 = List.replicate l.length 0 := by
  rw [List.eq_replicate_iff]
  refine ⟨capL_len l 0, fun y hy => ?_⟩
  obtain ⟨x, hx, rfl⟩ := List.mem_map.1 hy
  have := h0 x hx
  unfold capC
  split <;> omega
theorem ovOk_mask (f a b c : Int) (l : List Int) (n : Nat) (hn : n < 9) : ovOk f a b c f a b c (maskL l ((n : Int) + 1)) ((n : Int) + 1) := by
  refine ⟨⟨by omega, by omega⟩, ⟨rfl, rfl, rfl, rfl⟩, List.all_eq_true.2 fun y hy => ?_⟩
  obtain ⟨x, _, rfl⟩ := List.mem_map.1 hy
  split <;> decide
theorem law_FnMasks (a0 : List (Int)) (wf0 : (a0.length ≤ maxLen ∧ ∀ y ∈ a0, (Lit.int .u8 y).wf = true)) : Sp Try.prog 3 [.v (.sl 0 (a0.map fun y => .int .u8 y))] (.v (.bool true)) [] := by
  have hw := wf0.2
  clear wf0
  generalize a0 = code at *
  show Sp Try.prog 3 [.v (cdV code)] (vb true) []
  have wb := s_big code
  by_cases hb : (4096 : Int) < code.length
  · rw [decide_eq_true hb] at wb
    refine sp_of (m := no) mixed Try.func3 k3 ?_
    simp -dsimp [q]
    refine call_of (wb) rfl (by simp) ?_
    try simp -dsimp
    try (first | exact fp_one (by decide) | refine fp_and (by decide) ?_)
  rw [decide_eq_false hb] at wb
  have hc : okC code := ⟨by omega, fun y hy => u8_wf (hw y hy)⟩
  obtain ⟨f, a, b, c, l, ink, hl, _, w1⟩ := s_dMO code hc
  obtain ⟨f1, a1, b1, c1, l1, f2, a2, b2, c2, l2, ink2, hl1, hl2, _, w2⟩ := s_dOP code hc
  obtain ⟨f3, a3, b3, c3, l3, hl3, w3⟩ := s_dSM code hc
  obtain ⟨g1, g2, g3, g4, r, k, hr, w4, w5⟩ := overs f1 a1 b1 c1 l1 f2 a2 b2 c2 l2 ink2 (by omega) (by omega)
  obtain ⟨j1, j2, j3, j4, t, kk, ht, hge, w6, w7⟩ := spreads f3 a3 b3 c3 l3 (by omega)
  have lo := s_likeP g1 g2 g3 g4 r g1 g2 g3 g4 r hr
  have ls := s_likeP j1 j2 j3 j4 t j1 j2 j3 j4 t ht
  rw [decide_eq_true ⟨rfl, ⟨rfl, rfl, rfl⟩, rfl⟩] at lo ls
  rcases masks f a b c l ink (by omega) with ⟨⟨hok, hink⟩, p1, p2, p3, p4⟩ | ⟨j, hj, p1, p2, p3, p4⟩
  · have lm := s_likeP f a b c (maskL l ink) f a b c (maskL l ink) (by rw [maskL_len]; omega)
    have ll := s_likeP f a b c l f a b c l (by omega)
    rw [decide_eq_true ⟨rfl, ⟨rfl, rfl, rfl⟩, rfl⟩] at lm ll
    have lsum := s_sumI l ink (by omega)
    obtain ⟨_, kk2, kk3, kk4⟩ := okP_spec.1 hok
    obtain ⟨kka, kkc, _, kkd⟩ := okL_spec.1 kk2
    have kkp := ac_pos kka.1 kkc.1
    have hcb := cntA_bd l ink
    have hmn : ¬ maskL l ink = [] := fun h => by
      have e1 := congrArg List.length h
      rw [maskL_len] at e1
      have e0 : ([] : List Int).length = 0 := rfl
      omega
    have hmw := tdw (x := cntA l ink) (n := l.length) hcb.1 (by omega)
    generalize hV : (1000 * cntA l ink).tdiv l.length = V at *
    refine sp_of (m := no) mixed Try.func3 k3 ?_
    simp -dsimp [q]
    repeat ((first | refine call_of (wb) rfl (by simp) ?_ | refine call_of (w1) rfl (by simp) ?_ | refine call_of (p1) rfl (by simp) ?_ | refine call_of (p2) rfl (by simp) ?_ | refine call_of (w2) rfl (by simp) ?_ | refine call_of (w4) rfl (by simp) ?_ | refine call_of (w5) rfl (by simp) ?_ | refine call_of (w3) rfl (by simp) ?_ | refine call_of (w6) rfl (by simp) ?_ | refine call_of (w7) rfl (by simp) ?_ | refine call_of (p3) rfl (by simp) ?_ | refine call_of (p4) rfl (by simp) ?_ | refine call_of (lm) rfl (by simp) ?_ | refine call_of (lo) rfl (by simp) ?_ | refine call_of (ls) rfl (by simp) ?_ | exact fp_one (by decide) | refine fp_and (by decide) ?_ | refine br_l (by omega) (by omega) ?_ | refine br_r (by omega) (by omega) ?_ | refine br_p (by omega) (by omega) ?_ | refine br_q (by omega) (by omega) ?_); try simp -dsimp)
    refine awp_it (false :: false :: false :: true :: false :: true :: true :: false :: false :: false :: false :: false :: false :: false :: false :: false :: true :: true :: true :: false :: false :: true :: false :: false :: false :: true :: []) (fun i : Nat => [(25, vi i)]) (fun i => []) (fun i => i ≤ l3.length) (fun i => l3.length - i) 0 ?_
    intro s0 e
    simp -dsimp at e
    subst e
    refine ⟨?_, ?_⟩
    · simp
    intro i hi
    simp -dsimp
    refine ⟨fun hk0 => ⟨fun h8 => ⟨by have := (hge hk0).1; omega, fun x hx => ⟨h8, fun y hy => ?_⟩⟩, fun h8 => ?_⟩, fun hk1 => ?_⟩
    · have e8 := (hge hk0).2 i y x hy hx
      exact ⟨e8, fun _ => ⟨i + 1, by rw [w64 (by omega) (by omega)]; simp, by omega, by omega⟩⟩
    all_goals
      refine call_of (lsum) rfl (by simp) ?_
      try simp -dsimp
      try (first | exact fp_one (by decide) | refine fp_and (by decide) ?_)
      simp only [maskL_len, hmw]
      refine ⟨hmn, trivial, fun _ => ⟨⟨by omega, by omega⟩, by decide, ?_⟩⟩
      refine awp_it (false :: false :: false :: true :: false :: false :: false :: false :: false :: false :: false :: false :: false :: false :: false :: false :: false :: false :: false :: false :: false :: false :: false :: false :: false :: false :: true :: true :: []) (fun n : Nat => [(27, vi ((n : Int) + 1))]) (fun n => [(2, .row 0 2 (is (capL l n)))]) (fun n => n ≤ 9) (fun n => 9 - n) 0 ?_
      intro s0 e
      simp -dsimp at e
      subst e
      refine ⟨?_, ?_⟩
      · simp [cap_zero kk4]
      intro n hn
      simp -dsimp
      refine ⟨fun h9 => ?_, fun h9 => ?_⟩
      · have m1 := s_mO f a b c l ((n : Int) + 1) hok ⟨by omega, by omega⟩ (by omega)
        have m2 := s_ov f a b c (capL l n) f a b c (maskL l ((n : Int) + 1)) ((n : Int) + 1) (by rw [capL_len]; omega) (by rw [maskL_len]; omega) (okP_cap n hok) (okP_mask _ hok) (ovOk_mask f a b c l n (by omega))
        rw [cap_step (a := a) (b := b) (by omega) kk3 kk4 n (by omega)] at m2
        refine call_of (m1) rfl (by simp) ?_
        try simp -dsimp
        try (first | exact fp_one (by decide) | refine fp_and (by decide) ?_)
        refine call_of (m2) rfl (by simp) ?_
        try simp -dsimp
        try (first | exact fp_one (by decide) | refine fp_and (by decide) ?_)
        refine ⟨n + 1, ?_, by omega, by omega⟩
        rw [w64 (by omega) (by omega)]
        simp
      · rw [show n = 9 by omega, cap_nine kk4]
        refine call_of (ll) rfl (by simp) ?_
        try simp -dsimp
        try (first | exact fp_one (by decide) | refine fp_and (by decide) ?_)
  · have lz := s_likeP 0 0 0 0 [] 0 0 0 0 [] (by simp)
    rw [decide_eq_true ⟨rfl, ⟨rfl, rfl, rfl⟩, rfl⟩] at lz
    refine sp_of (m := no) mixed Try.func3 k3 ?_
    simp -dsimp [q]
    repeat ((first | refine call_of (wb) rfl (by simp) ?_ | refine call_of (w1) rfl (by simp) ?_ | refine call_of (p1) rfl (by simp) ?_ | refine call_of (p2) rfl (by simp) ?_ | refine call_of (w2) rfl (by simp) ?_ | refine call_of (w4) rfl (by simp) ?_ | refine call_of (w5) rfl (by simp) ?_ | refine call_of (w3) rfl (by simp) ?_ | refine call_of (w6) rfl (by simp) ?_ | refine call_of (w7) rfl (by simp) ?_ | refine call_of (p3) rfl (by simp) ?_ | refine call_of (p4) rfl (by simp) ?_ | refine call_of (lz) rfl (by simp) ?_ | refine call_of (lo) rfl (by simp) ?_ | refine call_of (ls) rfl (by simp) ?_ | exact fp_one (by decide) | refine fp_and (by decide) ?_ | refine br_l (by omega) (by omega) ?_ | refine br_r (by omega) (by omega) ?_ | refine br_p (by omega) (by omega) ?_ | refine br_q (by omega) (by omega) ?_); try simp -dsimp)
    refine awp_it (false :: false :: false :: true :: false :: true :: true :: false :: false :: false :: false :: false :: false :: false :: false :: false :: true :: true :: true :: false :: false :: true :: false :: false :: false :: true :: []) (fun i : Nat => [(25, vi i)]) (fun i => []) (fun i => i ≤ l3.length) (fun i => l3.length - i) 0 ?_
    intro s0 e
    simp -dsimp at e
    subst e
    refine ⟨?_, ?_⟩
    · simp
    intro i hi
    simp -dsimp
    refine ⟨fun hk0 => ⟨fun h8 => ⟨by have := (hge hk0).1; omega, fun x hx => ⟨h8, fun y hy => ?_⟩⟩, fun h8 hj0 => absurd hj0 hj⟩, fun hk1 hj0 => absurd hj0 hj⟩
    have e8 := (hge hk0).2 i y x hy hx
    exact ⟨e8, fun _ => ⟨i + 1, by rw [w64 (by omega) (by omega)]; simp, by omega, by omega⟩⟩
end Go.Proofs.YtgkhakhkebjbpaaEv
namespace Go.Proofs.YtgkhakhkebjbpaaEv
open Go Go.ChangeShapes Go.WideShapes Go.RowKit Go.Deep

abbrev below (W : World) : Nat → Prop := fun b => b < W.heap.size
def OpC {α : Type} (P : Program) (t : TypeId) (encs : α → List V) (wf : α → Prop) : Prop :=
  ∀ (H : Type) (enc : TypeId × Value → H) (W : World) (spare : Nat → Bool) (held : Bool) (fuel : Nat) (cs : List Value) (x : DataW H × List MemPlace),
    DataW.trod enc P W 0 spare held fuel t cs = some x → ∃ a, RepL (below W) W (encs a) cs ∧ wf a
theorem opc_int {P : Program} {t : TypeId} {k : IntKind} (hu : P.underlying t = some (.int k)) : OpC P t (fun n => [V.int k n]) (fun n => (Lit.int k n).wf = true) := by
  intro H enc W spare held fuel cs x h
  obtain ⟨n, rfl, _, hw⟩ := DataW.trod_int hu h
  exact ⟨n, ⟨_, [], rfl, rfl, rfl, rfl⟩, hw⟩
theorem opc_bool {P : Program} {t : TypeId} (hu : P.underlying t = some .bool) : OpC P t (fun b => [V.bool b]) (fun _ => True) := by
  intro H enc W spare held fuel cs x h
  obtain ⟨n, rfl, _⟩ := DataW.trod_bool hu h
  exact ⟨n, ⟨_, [], rfl, rfl, rfl, rfl⟩, trivial⟩
theorem opc_string {P : Program} {t : TypeId} (hu : P.underlying t = some .string) : OpC P t (fun s => [V.str s]) (fun s => s.size ≤ maxLen) := by
  intro H enc W spare held fuel cs x h
  obtain ⟨n, rfl, _, hs⟩ := DataW.trod_string hu h
  exact ⟨n, ⟨_, [], rfl, rfl, rfl, rfl⟩, hs⟩
theorem list_of {α : Type} {n : Nat} {p : Nat → α → Prop} (h : ∀ i, i < n → ∃ x, p i x) : ∃ l : List α, l.length = n ∧ ∀ i (hi : i < l.length), p i l[i] := by
  induction n with
  | zero => exact ⟨[], rfl, fun i hi => absurd hi (Nat.not_lt_zero _)⟩
  | succ n ih =>
    obtain ⟨l, hl, hp⟩ := ih (fun i hi => h i (Nat.lt_succ_of_lt hi))
    obtain ⟨x, hx⟩ := h n (Nat.lt_succ_self n)
    refine ⟨l ++ [x], by simp [hl], fun i hi => ?_⟩
    by_cases e : i < l.length
    · rw [List.getElem_append_left e]; exact hp i e
    · have : i = n := by simp at hi; omega
      subst this
      rw [List.getElem_append_right (by omega)]
      simpa [hl] using hx
def mkE (k : Nat) (cs : List V) : V := if k = 0 then cs.headD default else .ag cs
theorem repAt_of {S : Nat → Prop} {w : World} {Ad : Option Addr} {e : Nat} : ∀ (xs : List V) (i : Nat), (∀ j x, xs[j]? = some x → ∃ b u, Ad = some b ∧ S b.block ∧ Rep S w x u ∧ u.cells.size = cz e ∧ x.isAg = (e != 0) ∧ ∀ (k : Nat) y, u.cells[k]? = some y → w.cell? (b.add ((i + j) * cz e + k)) = some y) → RepAt S w Ad e i xs
  | [], _, _ => trivial
  | x :: xs, i, h => by
    refine ⟨by simpa using h 0 x rfl, repAt_of xs (i + 1) (fun j y hy => ?_)⟩
    obtain ⟨b, u, h1, h2, h3, h4, h5, h6⟩ := h (j + 1) y (by simpa using hy)
    exact ⟨b, u, h1, h2, h3, h4, h5, fun k z hz => by rw [show i + 1 + j = i + (j + 1) by omega]; exact h6 k z hz⟩
theorem mkE_rep {S : Nat → Prop} {w : World} {k : Nat} {ds : List V} {cs : List Value} (h : RepL S w ds cs) (hl : cs.length = cz k) : ∃ u, Rep S w (mkE k ds) u ∧ u.cells.toList = cs ∧ (mkE k ds).isAg = (k != 0) := by
  unfold mkE
  by_cases hk : k = 0
  · subst hk
    rw [if_pos rfl]
    match ds, cs, h, hl with
    | [d], [c], ⟨u, us', h1, h2, h3, h4⟩, _ =>
      cases h1
      have := h3.cellsNe h2
      exact ⟨c, h3, by rw [this.2], h2⟩
    | [], [], _, hl => cases hl
    | _ :: _ :: _, [], h, _ => obtain ⟨_, _, h1, _⟩ := h; cases h1
    | [_], [], h, _ => obtain ⟨_, _, h1, _⟩ := h; cases h1
    | [_], _ :: _ :: _, _, hl => cases hl
    | [], _ :: _, h, _ => simp [RepL] at h
    | _ :: _ :: _, [_], h, _ => obtain ⟨_, _, h1, _, _, _, _, h2, _⟩ := h; cases h1; cases h2
    | _ :: _ :: _, _ :: _ :: _, _, hl => cases hl
  · rw [if_neg hk]
    exact ⟨.agg cs.toArray, ⟨cs, rfl, h⟩, by simp [Value.cells], by simp [V.isAg, hk]⟩
theorem opc_slice {α : Type} {P : Program} {t e : TypeId} {k : Nat} {encs : α → List V} {wf : α → Prop} (hu : P.underlying t = some (.slice e)) (hk : kindOf P e = some k) (h : OpC P e encs wf) :
    OpC P t (fun l : List α => [V.sl k (l.map fun a => mkE k (encs a))]) (fun l => l.length ≤ maxLen ∧ ∀ x ∈ l, wf x) := by
  intro H enc W spare held fuel cs x hx
  have hsz : P.cellsOf e = cz k := by
    obtain ⟨_, i, _, h1, h2, _⟩ := kindOf_spec hk
    simp [Program.cellsOf, h1, h2]
  rcases open_slice hu hx with ⟨rfl, _⟩ | ⟨a, len, cap, m, n, D, Pl, rfl, _, hl, hm, hmm, _, hel⟩
  · exact ⟨[], ⟨_, [], rfl, rfl, ⟨none, 0, rfl, Nat.le_refl _, Nat.zero_le _, trivial⟩, rfl⟩, Nat.zero_le _, fun x hx => absurd hx (by simp)⟩
  · have hle : len ≤ m := by rw [hmm]; split <;> omega
    obtain ⟨l, hlen, hp⟩ := list_of (p := fun i y => ∃ cs', W.cells? 0 (a.add (i * P.cellsOf e)) (P.cellsOf e) = some cs' ∧ RepL (below W) W (encs y) cs' ∧ wf y) (n := len) (fun i hi => by
      obtain ⟨cs', h1, h2⟩ := hel i (by omega)
      obtain ⟨y, hK, hw⟩ := h H enc W spare held n cs' _ h2
      exact ⟨y, cs', h1, hK, hw⟩)
    subst hlen
    refine ⟨l, ⟨_, [], rfl, rfl, ⟨some a, cap, by simp, by simpa using hl, hm, repAt_of _ 0 (fun j x hj => ?_)⟩, rfl⟩, Nat.le_trans hl hm, fun y hy => ?_⟩
    · simp only [List.getElem?_map, Option.map_eq_some_iff] at hj
      obtain ⟨y, hj, rfl⟩ := hj
      obtain ⟨hj', rfl⟩ := List.getElem?_eq_some_iff.1 hj
      obtain ⟨cs', h1, hK, _⟩ := hp j hj'
      obtain ⟨_, hcl, hcell⟩ := World.cells?_some h1
      rw [hsz] at hcl hcell
      obtain ⟨u, h2, h3, h4⟩ := mkE_rep hK hcl
      have hus : u.cells.size = cz k := by rw [← hcl, ← h3]; simp
      have cell : ∀ (i : Nat) y, u.cells[i]? = some y → W.cell? (a.add (j * cz k + i)) = some y := by
        intro i y hy
        have hi : i < cz k := by have := (Array.getElem?_eq_some_iff.1 hy).1; omega
        have := hcell i hi
        rw [Go.Deep.add_add] at this
        rw [this, ← h3]
        simpa using hy
      refine ⟨a, u, rfl, ?_, h2, hus, h4, fun i y hy => by simpa using cell i y hy⟩
      have h0 : 0 < u.cells.size := by rw [hus]; exact cz_pos k
      have := World.block_lt_of_cell? W _ (cell 0 _ (Array.getElem?_eq_getElem h0))
      rwa [add_block] at this
    · obtain ⟨j, hj, rfl⟩ := List.mem_iff_getElem.1 hy
      obtain ⟨_, _, _, hw⟩ := hp j hj
      exact hw
theorem RepL.append {S : Nat → Prop} {w : World} : ∀ {az bs : List V} {us vs : List Value}, RepL S w az us → RepL S w bs vs → RepL S w (az ++ bs) (us ++ vs)
  | [], _, us, _, h, k => by simp only [RepL] at h; subst h; exact k
  | a :: az, _, us, vs, ⟨u, us', h1, h2, h3, h4⟩, k => by subst h1; exact ⟨u, us' ++ vs, rfl, h2, h3, h4.append k⟩
/-- The fields of a struct, from a place on. -/
def OpF {α : Type} (P : Program) (fs : List Field) (off n : Nat) (encs : α → List V) (wf : α → Prop) : Prop :=
  ∀ (H : Type) (enc : TypeId × Value → H) (W : World) (spare : Nat → Bool) (held : Bool) (fuel : Nat) (cs : List Value), cs.length = off + n →
    (∀ f ∈ fs, ∃ y, DataW.trod enc P W 0 spare held fuel f.type ((cs.drop f.offset).take (P.cellsOf f.type)) = some y) → ∃ a, RepL (below W) W (encs a) (cs.drop off) ∧ wf a
theorem opf_one {α : Type} {P : Program} {f : Field} {off n : Nat} {encs : α → List V} {wf : α → Prop} (ho : f.offset = off) (hc : P.cellsOf f.type = n) (h : OpC P f.type encs wf) : OpF P [f] off n encs wf := by
  intro H enc W spare held fuel cs hl hf
  obtain ⟨y, hy⟩ := hf f (by simp)
  rw [ho, hc, List.take_of_length_le (by rw [List.length_drop]; omega)] at hy
  exact h H enc W spare held fuel _ _ hy
theorem opf_cons {α β : Type} {P : Program} {f : Field} {fs : List Field} {off n m : Nat} {encs : α → List V} {encs1 : β → List V} {wf : α → Prop} {wf1 : β → Prop} (ho : f.offset = off) (hc : P.cellsOf f.type = n) (h : OpC P f.type encs wf) (h1 : OpF P fs (off + n) m encs1 wf1) :
    OpF P (f :: fs) off (n + m) (fun a : α × β => encs a.1 ++ encs1 a.2) (fun a => wf a.1 ∧ wf1 a.2) := by
  intro H enc W spare held fuel cs hl hf
  obtain ⟨y, hy⟩ := hf f (by simp)
  rw [ho, hc] at hy
  obtain ⟨a, hK, hw⟩ := h H enc W spare held fuel _ _ hy
  obtain ⟨b, hK1, hw1⟩ := h1 H enc W spare held fuel cs (by omega) (fun g hg => hf g (by simp [hg]))
  refine ⟨(a, b), ?_, hw, hw1⟩
  have := hK.append hK1
  rwa [← List.drop_drop, List.take_append_drop] at this
theorem opc_struct {α : Type} {P : Program} {t : TypeId} {fs : Array Field} {n : Nat} {encs : α → List V} {wf : α → Prop} (hu : P.underlying t = some (.struct fs)) (hc : P.cellsOf t = n) (h : OpF P fs.toList 0 n encs wf) : OpC P t encs wf := by
  intro H enc W spare held fuel cs x hx
  obtain ⟨xs, m, _, _, hl, hlen, hf⟩ := DataW.trod_struct hu hx
  have := h H enc W spare held m cs (by omega) (fun f hf' => by
    obtain ⟨i, hi, rfl⟩ := List.mem_iff_getElem.1 hf'
    have h2 := hf i fs.toList[i] (by simp at hi ⊢)
    rw [List.getElem?_eq_getElem (by simp at hi; omega)] at h2
    exact ⟨_, h2⟩)
  simpa using this
theorem agg_of {P : Program} {W : World} {r : Reach} {base : Nat} {t : TypeId} {fs : Array Field} {v : Value} (hu : P.underlying t = some (.struct fs)) (hv : Value.okWide P W r base t v) : ∃ cs : Array Value, v = .agg cs := by
  obtain ⟨cs, rfl, _⟩ := okWide_struct hu hv
  exact ⟨cs, rfl⟩
theorem cell_rows {w : World} {g : Nat} {v : Value} (h : w.cell? ⟨g, 0, none⟩ = some v) : ∃ cs t z, w.heap[g]? = some (.cells cs t z) ∧ cs[0]? = some v := by
  unfold World.cell? at h
  split at h
  · rename_i cs t z hh
    refine ⟨cs, t, z, hh, ?_⟩
    simpa using h
  · cases h
theorem rows_cell {w : World} {g : Nat} {v : Value} {cs : Array Value} {t : TypeId} {z : Nat × Nat} (h : w.heap[g]? = some (.cells cs t z)) (h0 : cs[0]? = some v) : w.cell? ⟨g, 0, none⟩ = some v := by
  unfold World.cell?
  simp only [h]
  simpa using h0
/-- A law's call comes back with true, and what was there is there. -/
theorem law_calls {P : Program} {f : Nat} {az : List A} (h : Sp P f az (.v (.bool true)) []) (W : World) (hT : Tbl W (fun _ => False) (below W)) (us : List Value) (hus : ARs (fun _ => none) (fun _ => (0, 0)) (below W) W az us) :
    Calls P f us.toArray W fun e w' => e = .returned (.bool true) ∧ Below W.heap.size W w' := by
  have R0 : Rl W (fun _ => False) (below W) (fun i => ([] : List Ck)[i]?) (fun _ => (0, 0)) (below W) W :=
    ⟨hT, rfl, rfl, rfl, Nat.le_refl _, fun _ _ _ => rfl, fun _ h => h, fun _ h => .inl h, fun _ h => h, fun i => trivial, fun i c hc => (by cases hc), fun i j c d hc => (by cases hc)⟩
  refine (h.2 (below W) W us (fun _ => False) (fun _ => (0, 0)) R0 hus).mono ?_
  rintro e w' ⟨u, S', μ', rfl, R, _, hu⟩
  have : u = .bool true := hu
  exact ⟨by rw [this], R.os, R.tape, R.output, R.size, fun k hk => R.keep k hk (fun h => h)⟩
theorem ar_agg {S : Nat → Prop} {w : World} {ds : List V} {cs : Array Value} (h : RepL S w ds cs.toList) : AR (fun _ => none) (fun _ => (0, 0)) S w (.v (.ag ds)) (.agg cs) := ⟨cs.toList, by simp, h⟩
theorem ar_one {S : Nat → Prop} {w : World} {d : V} {v : Value} (h : RepL S w [d] [v]) : AR (fun _ => none) (fun _ => (0, 0)) S w (.v d) v := by
  obtain ⟨u, us', h1, h2, h3, h4⟩ := h
  cases h1
  exact h3
end Go.Proofs.YtgkhakhkebjbpaaEv
