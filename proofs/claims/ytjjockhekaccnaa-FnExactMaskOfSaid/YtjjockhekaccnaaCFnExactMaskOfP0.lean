/- Part of the proof of the law FnExactMaskOf: the plain statement. No condition of its own. -/
import Derived.Test.YtjjockhekaccnaaCFnExactMaskOfE0
namespace Go.Proofs.Ytjjockhekaccnaa.X
open Go.RowKit Go.Proofs.YtjjockhekaccnaaW.PrintWords Go.Proofs.YtjjockhekaccnaaW.PrintLast Go.Proofs.YtjjockhekaccnaaW.PrintMore
def laws_FnExactMaskOf.Pure : Prop := ∀ (a0_0 : Int) (a0_1 : Int) (a0_2 : Int) (a0_3 : Int) (l0_4 : List Int) (a1 : Int), ((Lit.int .i64 a0_0).wf = true ∧ ((Lit.int .i64 a0_1).wf = true ∧ (Lit.int .i64 a0_2).wf = true ∧ (Lit.int .i64 a0_3).wf = true) ∧ (l0_4.length ≤ maxLen ∧ ∀ x_ ∈ l0_4, (Lit.int .i64 x_).wf = true)) → (Lit.int .i64 a1).wf = true → ∃ k, laws_FnExactMaskOf.f k a0_0 a0_1 a0_2 a0_3 l0_4 a1 = some true
end Go.Proofs.Ytjjockhekaccnaa.X
namespace Go.Proofs.Ytjjockhekaccnaa.Q
open Go.RowKit Go.Proofs.Ytjjockhekaccnaa.X Go.Proofs.YtjjockhekaccnaaW.PrintWords Go.Proofs.YtjjockhekaccnaaW.PrintMore

theorem w64 {x : Int} (h : -9223372036854775808 ≤ x) (h' : x ≤ 9223372036854775807) : wrap64 x = x := by unfold wrap64; omega
theorem maxLen_eq : maxLen = 9223372036854775807 := rfl
theorem rd_eq {l : List Int} {i : Int} (h : 0 ≤ i) (h' : i < l.length) : rd l i = l[i.toNat]'(by omega) := by
  unfold rd
  rw [List.getD_eq_getElem?_getD, List.getElem?_eq_getElem (by omega)]
  rfl
theorem rd_nat {l : List Int} {i : Nat} (h : i < l.length) : rd l (i : Int) = l[i] := by
  rw [rd_eq (by omega) (by omega)]
  simp
theorem rd_nat' (l : List Int) (i : Nat) : rd l (i : Int) = l.getD i 0 := by
  unfold rd
  rw [Int.toNat_natCast]
theorem tmod_small {a n : Int} (h : 0 ≤ a) (h' : a < n) : Int.tmod a n = a := Int.tmod_eq_of_lt h h'
theorem tmod_emod {a n : Int} (hn : 0 < n) : Int.tmod a n = if 0 ≤ a ∨ n ∣ a then a % n else a % n - n := by
  rw [Int.tmod_eq_emod]
  by_cases h : 0 ≤ a ∨ n ∣ a
  · rw [if_pos h, if_pos h]; omega
  · rw [if_neg h, if_neg h]; omega
/-- The remainder that is at least 0, as both programs reckon it. -/
theorem mod_spec {a n : Int} (hn : 0 < n) (hn' : n ≤ 4611686018427387904) : spec_l01Mod.f a n = some (a % n) := by
  unfold spec_l01Mod.f
  rw [if_neg (by omega)]
  have h0 := Int.emod_nonneg a (show n ≠ 0 by omega)
  have h1 := Int.emod_lt_of_pos a hn
  by_cases h : 0 ≤ a ∨ n ∣ a
  · rw [tmod_emod hn, if_pos h, if_neg (by omega)]
  · rw [tmod_emod hn, if_neg h, if_pos (by omega), w64 (by omega) (by omega)]
    congr 1
    omega
theorem mod_impl {a n : Int} (hn : 0 < n) (hn' : n ≤ 4611686018427387904) : impl_mod.f a n = some (a % n) := by
  unfold impl_mod.f
  rw [if_neg (by omega)]
  have h0 := Int.emod_nonneg a (show n ≠ 0 by omega)
  have h1 := Int.emod_lt_of_pos a hn
  by_cases h : 0 ≤ a ∨ n ∣ a
  · rw [tmod_emod hn (a := a), if_pos h, w64 (by omega) (by omega), tmod_emod hn, if_pos (by omega), Int.add_emod_right, Int.emod_emod_of_dvd _ (Int.dvd_refl n)]
  · rw [tmod_emod hn (a := a), if_neg h, w64 (by omega) (by omega), tmod_emod hn, if_pos (by omega)]
    congr 1
    rw [show a % n - n + n = a % n by omega, Int.emod_emod_of_dvd _ (Int.dvd_refl n)]
theorem rd_replicate (n : Nat) (i : Int) : rd (List.replicate n 0) i = 0 := by
  unfold rd
  rw [List.getD_eq_getElem?_getD, List.getElem?_replicate]
  split <;> rfl
/-! ### loops that carry a state -/
def iter {σ : Type} (step : Int → σ → σ) : Nat → Int → σ → σ
  | 0, _, s => s
  | d + 1, i, s => iter step d (i + 1) (step i s)
/-- A loop from i to n that turns its state at each round and ends with fin. -/
theorem fold_loop {σ ρ : Type} (F : Int → σ → ρ) (step : Int → σ → σ) (Inv : σ → Prop) (n : Int) (fin : σ → ρ) (hn : ∀ s, Inv s → F n s = fin s) (hs : ∀ i s, 0 ≤ i → i < n → Inv s → F i s = F (i + 1) (step i s) ∧ Inv (step i s)) :
    ∀ (d : Nat) (i : Int) (s : σ), 0 ≤ i → i + d = n → Inv s → F i s = fin (iter step d i s) ∧ Inv (iter step d i s) := by
  intro d
  induction d with
  | zero =>
    intro i s h0 hi hv
    obtain rfl : i = n := by omega
    exact ⟨hn s hv, hv⟩
  | succ d ih =>
    intro i s h0 hi hv
    obtain ⟨h1, h2⟩ := hs i s h0 (by omega) hv
    rw [h1]
    exact ih (i + 1) _ (by omega) (by omega) h2
end Go.Proofs.Ytjjockhekaccnaa.Q
namespace Go.Proofs.Ytjjockhekaccnaa.Q
open Go.RowKit Go.Proofs.Ytjjockhekaccnaa.X Go.Proofs.YtjjockhekaccnaaW.PrintWords Go.Proofs.YtjjockhekaccnaaW.PrintMore

theorem toInts_loop (l : List Int) (hn : l.length ≤ 35184372088832) : ∀ (d i : Nat) (x3 : List Int), i + d = l.length → x3.length = l.length → (∀ j, j < i → x3[j]? = l[j]?) → laws_toInt64S.l0v l x3 (i : Int) = some l := by
  intro d
  induction d with
  | zero =>
    intro i x3 hi hx hj
    rw [laws_toInt64S.l0v_eq, if_neg (by omega)]
    congr 1
    apply List.ext_getElem?
    intro j
    by_cases h : j < l.length
    · exact hj j (by omega)
    · rw [List.getElem?_eq_none (by omega), List.getElem?_eq_none (by omega)]
  | succ d ih =>
    intro i x3 hi hx hj
    rw [laws_toInt64S.l0v_eq, if_pos (by omega), if_pos (by omega), if_pos (by omega), w64 (by omega) (by omega)]
    refine ih (i + 1) _ (by omega) (by simpa using hx) (fun j h => ?_)
    rw [Int.toNat_natCast, rd_nat (by omega)]
    by_cases e : j = i
    · subst e
      rw [List.getElem?_set_self (by omega), List.getElem?_eq_getElem (by omega)]
    · rw [List.getElem?_set_ne (by omega)]
      exact hj j (by omega)
theorem toInts (l : List Int) (hn : l.length ≤ 35184372088832) : laws_toInt64S.fv l = some l := by
  rw [laws_toInt64S.fv_eq, if_pos (by omega), if_pos (by omega)]
  exact toInts_loop l hn l.length 0 _ (by omega) (by simp) (fun j h => absurd h (Nat.not_lt_zero _))
theorem szInts (l : List Int) (n : Int) (h0 : 0 ≤ n) (h1 : n ≤ 1048576) (hl : l.length ≤ maxLen) : laws_szInt64S.f l n = some (if (l.length : Int) ≤ n then n - l.length else -1) := by
  rw [maxLen_eq] at hl
  unfold laws_szInt64S.f
  rw [w64 (by omega) (by omega)]
  by_cases h : (l.length : Int) ≤ n
  · rw [if_neg (by omega), if_pos h]
  · rw [if_pos (by omega), if_neg h]
theorem eqInts_loop (a b : List Int) (hn : a.length ≤ 4611686018427387904) (hab : a.length = b.length) : ∀ (d i : Nat), i + d = a.length → (∀ j, j < i → a[j]? = b[j]?) → laws_eqInt64S.l0v a b (i : Int) = some (decide (a = b)) := by
  intro d
  induction d with
  | zero =>
    intro i hi hj
    rw [laws_eqInt64S.l0v_eq, if_neg (by omega)]
    have : a = b := by
      apply List.ext_getElem?
      intro j
      by_cases h : j < a.length
      · exact hj j (by omega)
      · rw [List.getElem?_eq_none (by omega), List.getElem?_eq_none (by omega)]
    simp [this]
  | succ d ih =>
    intro i hi hj
    rw [laws_eqInt64S.l0v_eq, if_pos (by omega), if_pos (by omega), if_pos (by omega), rd_nat (by omega), rd_nat (by omega)]
    by_cases e : a[i]'(by omega) = b[i]'(by omega)
    · rw [if_pos e, w64 (by omega) (by omega)]
      refine ih (i + 1) (by omega) (fun j h => ?_)
      by_cases e' : j = i
      · subst e'
        rw [List.getElem?_eq_getElem (by omega), List.getElem?_eq_getElem (by omega), e]
      · exact hj j (by omega)
    · rw [if_neg e]
      have : a ≠ b := by
        rintro rfl
        exact e rfl
      simp [this]
theorem eqInts (a b : List Int) (hn : a.length ≤ 4611686018427387904) : laws_eqInt64S.fv a b = some (decide (a = b)) := by
  rw [laws_eqInt64S.fv_eq]
  by_cases h : a.length = b.length
  · rw [if_pos (by omega)]
    exact eqInts_loop a b hn h a.length 0 (by omega) (fun j h => absurd h (Nat.not_lt_zero _))
  · rw [if_neg (by omega)]
    have : a ≠ b := by
      rintro rfl
      exact h rfl
    simp [this]
/-- What marking leaves: the numbers from k on. -/
def marks (k : Int) (n : Nat) : List Int := (List.range n).map fun j : Nat => k + (j : Int)
theorem marks_length (k : Int) (n : Nat) : (marks k n).length = n := by simp [marks]
theorem marks_get (k : Int) (n j : Nat) (h : j < n) : (marks k n)[j]? = some (k + j) := by simp [marks, h]
theorem markInts_loop (k : Int) (n : Nat) (hk : 0 ≤ k) (hn : k + n ≤ 4611686018427387904) : ∀ (d i : Nat) (x0 : List Int), i + d = n → x0.length = n → (∀ j, j < i → x0[j]? = some (k + j)) → laws_markInt64S.l0v x0 (k + i) (i : Int) = some (k + n, marks k n) := by
  intro d
  induction d with
  | zero =>
    intro i x0 hi hx hj
    rw [laws_markInt64S.l0v_eq, if_neg (by omega)]
    obtain rfl : i = n := by omega
    congr 2
    apply List.ext_getElem?
    intro j
    by_cases h : j < i
    · rw [hj j h, marks_get _ _ _ h]
    · rw [List.getElem?_eq_none (by omega), List.getElem?_eq_none (by rw [marks_length]; omega)]
  | succ d ih =>
    intro i x0 hi hx hj
    rw [laws_markInt64S.l0v_eq, if_pos (by omega), if_pos (by omega), w64 (by omega) (by omega), w64 (by omega) (by omega), Int.toNat_natCast]
    have := ih (i + 1) (x0.set i (k + i)) (by omega) (by simpa using hx) (fun j h => by
      by_cases e : j = i
      · subst e
        rw [List.getElem?_set_self (by omega)]
      · rw [List.getElem?_set_ne (by omega)]
        exact hj j (by omega))
    rw [show k + (i : Int) + 1 = k + ((i + 1 : Nat) : Int) by omega]
    exact this
theorem markInts (l : List Int) (k : Int) (hk : 0 ≤ k) (hn : k + l.length ≤ 4611686018427387904) : laws_markInt64S.fv l k = some (k + l.length, marks k l.length) := by
  rw [laws_markInt64S.fv_eq]
  have := markInts_loop k l.length hk hn l.length 0 l (by omega) rfl (fun j h => absurd h (Nat.not_lt_zero _))
  simpa using this
theorem heldInts_loop (k : Int) (n : Nat) (hk : 0 ≤ k) (hn : k + n ≤ 4611686018427387904) : ∀ (d i : Nat), i + d = n → laws_heldInt64S.l0v (marks k n) (k + i) (i : Int) = some (k + n) := by
  intro d
  induction d with
  | zero =>
    intro i hi
    rw [laws_heldInt64S.l0v_eq, if_neg (by rw [marks_length]; omega)]
    obtain rfl : i = n := by omega
    rfl
  | succ d ih =>
    intro i hi
    have e : rd (marks k n) (i : Int) = k + i := by
      rw [rd_nat', List.getD_eq_getElem?_getD, marks_get _ _ _ (by omega)]; rfl
    rw [laws_heldInt64S.l0v_eq, if_pos (by rw [marks_length]; omega), if_pos (by omega), if_pos e, w64 (by omega) (by omega), w64 (by omega) (by omega)]
    have := ih (i + 1) (by omega)
    rw [show k + (i : Int) + 1 = k + ((i + 1 : Nat) : Int) by omega]
    exact this
theorem heldInts (k : Int) (n : Nat) (hk : 0 ≤ k) (hn : k + n ≤ 4611686018427387904) : laws_heldInt64S.fv (marks k n) k = some (k + n) := by
  rw [laws_heldInt64S.fv_eq]
  have := heldInts_loop k n hk hn n 0 (by omega)
  simpa using this
end Go.Proofs.Ytjjockhekaccnaa.Q
namespace Go.Proofs.Ytjjockhekaccnaa.Q
open Go.RowKit Go.Proofs.Ytjjockhekaccnaa.X Go.Proofs.YtjjockhekaccnaaW.PrintWords Go.Proofs.YtjjockhekaccnaaW.PrintMore

open Classical in
/-- A loop that asks something of each i and ends with r. -/
theorem all_loop (F : Int → Option Bool) (P : Int → Prop) (n : Int) (r : Option Bool) (hn : F n = r) (hs : ∀ i, 0 ≤ i → i < n → F i = if P i then F (i + 1) else some false) :
    ∀ (d : Nat) (i : Int), 0 ≤ i → i + d = n → F i = if (∀ j, i ≤ j → j < n → P j) then r else some false := by
  intro d
  induction d with
  | zero =>
    intro i h0 hi
    rw [if_pos (fun j h1 h2 => by omega), ← hn]
    congr 1; omega
  | succ d ih =>
    intro i h0 hi
    rw [hs i h0 (by omega)]
    by_cases hp : P i
    · rw [if_pos hp, ih (i + 1) (by omega) (by omega)]
      by_cases hq : ∀ j, i + 1 ≤ j → j < n → P j
      · rw [if_pos hq, if_pos (fun j h1 h2 => by
          by_cases e : j = i
          · rw [e]; exact hp
          · exact hq j (by omega) h2)]
      · rw [if_neg hq, if_neg (fun h => hq fun j h1 h2 => h j (by omega) h2)]
    · rw [if_neg hp, if_neg (fun h => hp (h i (by omega) (by omega)))]

/-! ### valid friezes -/
structure FV (h w : Int) (l : List Int) : Prop where
  h1 : 1 ≤ h
  h6 : h ≤ 6
  w1 : 1 ≤ w
  w24 : w ≤ 24
  len : (l.length : Int) = h * w
  cells : ∀ x ∈ l, 0 ≤ x ∧ x ≤ 9
noncomputable instance (h w : Int) (l : List Int) : Decidable (FV h w l) := Classical.propDecidable _
theorem FV.le {h w : Int} {l : List Int} (v : FV h w l) : h * w ≤ 144 := by
  have := Int.mul_le_mul v.h6 v.w24 (by have := v.w1; omega) (by omega)
  omega
theorem FV.pos {h w : Int} {l : List Int} (v : FV h w l) : 1 ≤ h * w := by
  have := Int.mul_le_mul v.h1 v.w1 (by omega) (by have := v.h1; omega)
  omega
theorem FV.idx {h w : Int} {l : List Int} (v : FV h w l) {x y : Int} (y0 : 0 ≤ y) (y1 : y < h) : 0 ≤ y * w ∧ 0 ≤ y * w + x % w ∧ y * w + x % w < l.length ∧ 0 ≤ x % w := by
  have a := Int.emod_nonneg x (show w ≠ 0 by have := v.w1; omega)
  have b := Int.emod_lt_of_pos x (show 0 < w by have := v.w1; omega)
  have c := Int.mul_nonneg y0 (show 0 ≤ w by have := v.w1; omega)
  have d := Int.mul_le_mul_of_nonneg_right (show y ≤ h - 1 by omega) (show 0 ≤ w by have := v.w1; omega)
  rw [Int.sub_mul] at d
  have e := v.len
  omega
open Classical in
theorem within_spec (l : List Int) (lo hi most : Int) (hl : l.length ≤ 9223372036854775807) : spec_l01Within.fv l most lo hi = some (decide ((∀ x ∈ l, lo ≤ x ∧ x ≤ hi) ∧ (l.length : Int) ≤ most)) := by
  rw [spec_l01Within.fv_eq]
  have := all_loop (fun i => spec_l01Within.l0v l most lo hi i) (fun i => lo ≤ rd l i ∧ rd l i ≤ hi) l.length (some (decide ((l.length : Int) ≤ most)))
    (by show spec_l01Within.l0v l most lo hi _ = _; rw [spec_l01Within.l0v_eq, if_neg (by omega)])
    (fun i h0 h1 => by
      show spec_l01Within.l0v l most lo hi _ = _
      rw [spec_l01Within.l0v_eq, if_pos h1, if_pos h0]
      unfold spec_l01In.f
      rw [w64 (by omega) (by omega)]
      by_cases a : lo ≤ rd l i
      · rw [if_pos a, Option.bind_some]
        by_cases b : rd l i ≤ hi
        · rw [if_pos (by simpa using b), if_pos ⟨a, b⟩]
        · rw [if_neg (by simpa using b), if_neg (fun h => b h.2)]
      · rw [if_neg a, Option.bind_some, if_neg (by simp), if_neg (fun h => a h.1)]) l.length 0 (by omega) (by omega)
  rw [this]
  have e : (∀ j : Int, 0 ≤ j → j < l.length → lo ≤ rd l j ∧ rd l j ≤ hi) ↔ ∀ x ∈ l, lo ≤ x ∧ x ≤ hi := by
    constructor
    · intro h x hx
      obtain ⟨j, hj, rfl⟩ := List.mem_iff_getElem.1 hx
      have := h j (by omega) (by omega)
      rwa [rd_nat hj] at this
    · intro h j h0 h1
      rw [rd_eq h0 h1]
      exact h _ (List.getElem_mem _)
  by_cases h : ∀ x ∈ l, lo ≤ x ∧ x ≤ hi
  · rw [if_pos (e.2 h)]
    congr 1
    exact decide_eq_decide.2 ⟨fun q => ⟨h, q⟩, fun q => q.2⟩
  · rw [if_neg (fun k => h (e.1 k))]
    congr 1
    simp only [h, false_and, decide_false]
theorem prod_in {h w : Int} (h1 : 1 ≤ h) (h6 : h ≤ 6) (w1 : 1 ≤ w) (w24 : w ≤ 24) : wrap64 (h * w) = h * w := by
  have a := Int.mul_nonneg (show 0 ≤ h by omega) (show 0 ≤ w by omega)
  have b := Int.mul_le_mul h6 w24 (by omega) (by omega)
  exact w64 (by omega) (by omega)
theorem isFrieze_spec (h w : Int) (l : List Int) (hl : l.length ≤ 9223372036854775807) : spec_IsFrieze.fv h w l = some (decide (FV h w l)) := by
  rw [spec_IsFrieze.fv_eq]
  unfold spec_l01In.f
  by_cases a : 1 ≤ h
  · rw [if_pos a, Option.bind_some]
    by_cases b : h ≤ 6
    · rw [if_pos (by simpa using b)]
      by_cases c : 1 ≤ w
      · rw [if_pos c, Option.bind_some]
        by_cases d : w ≤ 24
        · rw [if_pos (by simpa using d), prod_in a b c d]
          by_cases e : (l.length : Int) = h * w
          · rw [if_pos e, within_spec l 0 9 144 hl, Option.bind_some]
            congr 1
            rw [decide_eq_decide]
            constructor
            · rintro ⟨f, _⟩; exact ⟨a, b, c, d, e, f⟩
            · intro v; exact ⟨v.cells, by have := v.le; omega⟩
          · rw [if_neg e]
            simp only [Option.some.injEq]
            exact (decide_eq_false (fun v => e v.len)).symm
        · rw [if_neg (by simpa using d)]
          simp only [Option.some.injEq]
          exact (decide_eq_false (fun v => d v.w24)).symm
      · rw [if_neg c, Option.bind_some, if_neg (by simp)]
        simp only [Option.some.injEq]
        exact (decide_eq_false (fun v => c v.w1)).symm
    · rw [if_neg (by simpa using b)]
      simp only [Option.some.injEq]
      exact (decide_eq_false (fun v => b v.h6)).symm
  · rw [if_neg a, Option.bind_some, if_neg (by simp)]
    simp only [Option.some.injEq]
    exact (decide_eq_false (fun v => a v.h1)).symm
theorem isFrieze_impl (h w : Int) (l : List Int) : impl_IsFrieze.f h w l = some (decide (FV h w l)) := by
  unfold impl_IsFrieze.f impl_within.f impl_allWithin.f
  by_cases a : 1 ≤ h
  · rw [if_pos a, Option.bind_some]
    by_cases b : h ≤ 6
    · rw [if_pos (by simpa using b)]
      by_cases c : 1 ≤ w
      · rw [if_pos c, Option.bind_some]
        by_cases d : w ≤ 24
        · rw [if_pos (by simpa using d), prod_in a b c d]
          by_cases e : (l.length : Int) = h * w
          · rw [if_pos e, Option.bind_some]
            congr 1
            rw [Bool.eq_iff_iff, List.all_eq_true, decide_eq_true_iff]
            constructor
            · intro f; exact ⟨a, b, c, d, e, fun x hx => by simpa using f x hx⟩
            · intro v x hx; simpa using v.cells x hx
          · rw [if_neg e]
            simp only [Option.some.injEq]
            exact (decide_eq_false (fun v => e v.len)).symm
        · rw [if_neg (by simpa using d)]
          simp only [Option.some.injEq]
          exact (decide_eq_false (fun v => d v.w24)).symm
      · rw [if_neg c, Option.bind_some, if_neg (by simp)]
        simp only [Option.some.injEq]
        exact (decide_eq_false (fun v => c v.w1)).symm
    · rw [if_neg (by simpa using b)]
      simp only [Option.some.injEq]
      exact (decide_eq_false (fun v => b v.h6)).symm
  · rw [if_neg a, Option.bind_some, if_neg (by simp)]
    simp only [Option.some.injEq]
    exact (decide_eq_false (fun v => a v.h1)).symm

/-! ### cells and motions -/
def col (w : Int) (l : List Int) (x y : Int) : Int := rd l (y * w + x % w)
theorem at_spec {h w : Int} {l : List Int} (v : FV h w l) {x y : Int} (y0 : 0 ≤ y) (y1 : y < h) : spec_l08At.f h w l x y = some (col w l x y) := by
  have i := v.idx (x := x) y0 y1
  have b := v.le
  have e := v.len
  unfold spec_l08At.f
  rw [mod_spec (by have := v.w1; omega) (by have := v.w24; omega), Option.bind_some, w64 (x := y * w) (by omega) (by omega), w64 (by omega) (by omega), if_pos i.2.1, if_pos i.2.2.1]
  rfl
theorem at_impl {h w : Int} {l : List Int} (v : FV h w l) {x y : Int} (y0 : 0 ≤ y) (y1 : y < h) : impl_Frieze_at.f h w l x y = some (col w l x y) := by
  have i := v.idx (x := x) y0 y1
  have b := v.le
  have e := v.len
  unfold impl_Frieze_at.f
  rw [mod_impl (by have := v.w1; omega) (by have := v.w24; omega), Option.bind_some, w64 (x := y * w) (by omega) (by omega), w64 (by omega) (by omega), if_pos i.2.1, if_pos i.2.2.1]
  rfl
def imgX (tx : Bool) (s x : Int) : Int := s + (if tx = true then -x else x)
def imgY (h : Int) (ty : Bool) (y : Int) : Int := if ty = true then h - 1 - y else y
theorem imgY_in {h : Int} {ty : Bool} {y : Int} (y0 : 0 ≤ y) (y1 : y < h) : 0 ≤ imgY h ty y ∧ imgY h ty y < h := by
  unfold imgY; split <;> omega
theorem image_spec {h w : Int} {l : List Int} (v : FV h w l) {tx ty : Bool} {s x y : Int} (s0 : -1000 ≤ s) (s1 : s ≤ 1000) (x0 : 0 ≤ x) (x1 : x < w) (y0 : 0 ≤ y) (y1 : y < h) : spec_l08Image.f h w l tx ty s x y = some (imgX tx s x, imgY h ty y) := by
  have a := v.w24
  have b := v.h6
  have c := v.h1
  unfold spec_l08Image.f imgX imgY
  cases tx <;> cases ty <;> simp
  · exact w64 (by omega) (by omega)
  · exact ⟨w64 (by omega) (by omega), by rw [w64 (x := h - 1) (by omega) (by omega), w64 (by omega) (by omega)]⟩
  · rw [w64 (x := -x) (by omega) (by omega)]; exact w64 (by omega) (by omega)
  · rw [w64 (x := -x) (by omega) (by omega)]
    exact ⟨w64 (by omega) (by omega), by rw [w64 (x := h - 1) (by omega) (by omega), w64 (by omega) (by omega)]⟩
theorem take_impl {h w : Int} {l : List Int} (v : FV h w l) {tx ty : Bool} {s x y : Int} (s0 : -1000 ≤ s) (s1 : s ≤ 1000) (x0 : 0 ≤ x) (x1 : x < w) (y0 : 0 ≤ y) (y1 : y < h) : impl_Frieze_take.f h w l tx ty s x y = some (imgX tx s x % w, imgY h ty y) := by
  have a := v.w24
  have b := v.h6
  have c := v.h1
  have d := v.w1
  unfold impl_Frieze_take.f imgX imgY
  have hm : ∀ z : Int, impl_mod.f z w = some (z % w) := fun z => mod_impl (by omega) (by omega)
  cases tx <;> cases ty <;> simp [hm]
  · rw [w64 (by omega) (by omega), Int.add_comm]
  · rw [w64 (x := x + s) (by omega) (by omega), Int.add_comm, w64 (x := h - 1) (by omega) (by omega), w64 (x := h - 1 - y) (by omega) (by omega)]; exact ⟨rfl, rfl⟩
  · rw [w64 (x := -x) (by omega) (by omega), w64 (by omega) (by omega), Int.add_comm]
  · rw [w64 (x := -x) (by omega) (by omega), w64 (x := -x + s) (by omega) (by omega), Int.add_comm, w64 (x := h - 1) (by omega) (by omega), w64 (x := h - 1 - y) (by omega) (by omega)]; exact ⟨rfl, rfl⟩
theorem col_mod (w : Int) (l : List Int) (x y : Int) : col w l (x % w) y = col w l x y := by
  unfold col
  rw [Int.emod_emod_of_dvd _ (Int.dvd_refl w)]
/-- A motion keeps each cell's colour. -/
def Keeps (h w : Int) (l : List Int) (tx ty : Bool) (s : Int) : Prop := ∀ y, 0 ≤ y → y < h → ∀ x, 0 ≤ x → x < w → col w l (imgX tx s x) (imgY h ty y) = col w l x y
noncomputable instance (h w : Int) (l : List Int) (tx ty : Bool) (s : Int) : Decidable (Keeps h w l tx ty s) := Classical.propDecidable _
open Classical in
theorem keeps_spec {h w : Int} {l : List Int} (v : FV h w l) {tx ty : Bool} {s : Int} (s0 : -1000 ≤ s) (s1 : s ≤ 1000) : spec_l08Keeps.fv h w l tx ty s = some (decide (Keeps h w l tx ty s)) := by
  have a := v.w24
  have b := v.h6
  have c := v.h1
  have d := v.w1
  rw [spec_l08Keeps.fv_eq]
  have inner : ∀ y, 0 ≤ y → y < h → spec_l08Keeps.l0v y h w l tx ty s = if (∀ x, 0 ≤ x → x < w → col w l (imgX tx s x) (imgY h ty y) = col w l x y) then spec_l08Keeps.l0v (y + 1) h w l tx ty s else some false := by
    intro y y0 y1
    rw [spec_l08Keeps.l0v_eq, if_pos y1]
    refine all_loop (fun x => spec_l08Keeps.l1v y x h w l tx ty s) (fun x => col w l (imgX tx s x) (imgY h ty y) = col w l x y) w _ ?_ ?_ w.toNat 0 (by omega) (by omega)
    · show spec_l08Keeps.l1v y w h w l tx ty s = _
      rw [spec_l08Keeps.l1v_eq, if_neg (by omega), w64 (by omega) (by omega)]
    · intro x x0 x1
      show spec_l08Keeps.l1v y x h w l tx ty s = _
      have yi := imgY_in (ty := ty) y0 y1
      rw [spec_l08Keeps.l1v_eq, if_pos x1, image_spec v s0 s1 x0 x1 y0 y1, Option.bind_some, at_spec v yi.1 yi.2, Option.bind_some, at_spec v y0 y1, Option.bind_some, w64 (by omega) (by omega)]
      by_cases q : col w l (imgX tx s x) (imgY h ty y) = col w l x y
      · rw [if_pos q, if_pos q]
      · rw [if_neg q, if_neg q]
  have outer := all_loop (fun y => spec_l08Keeps.l0v y h w l tx ty s) (fun y => ∀ x, 0 ≤ x → x < w → col w l (imgX tx s x) (imgY h ty y) = col w l x y) h (some true) (by show spec_l08Keeps.l0v h h w l tx ty s = _; rw [spec_l08Keeps.l0v_eq, if_neg (by omega)]) inner h.toNat 0 (by omega) (by omega)
  rw [outer]
  by_cases k : Keeps h w l tx ty s
  · rw [decide_eq_true k]; exact if_pos k
  · rw [decide_eq_false k]; exact if_neg k
open Classical in
theorem keeps_impl {h w : Int} {l : List Int} (v : FV h w l) {tx ty : Bool} {s : Int} (s0 : -1000 ≤ s) (s1 : s ≤ 1000) : impl_Frieze_keeps.fv h w l tx ty s = some (decide (Keeps h w l tx ty s)) := by
  have a := v.w24
  have b := v.h6
  have c := v.h1
  have d := v.w1
  rw [impl_Frieze_keeps.fv_eq]
  have inner : ∀ y, 0 ≤ y → y < h → impl_Frieze_keeps.l0v h y h w l tx ty s = if (∀ x, 0 ≤ x → x < w → col w l (imgX tx s x) (imgY h ty y) = col w l x y) then impl_Frieze_keeps.l0v h (y + 1) h w l tx ty s else some false := by
    intro y y0 y1
    rw [impl_Frieze_keeps.l0v_eq, if_pos y1]
    refine all_loop (fun x => impl_Frieze_keeps.l1v y h y w x h w l tx ty s) (fun x => col w l (imgX tx s x) (imgY h ty y) = col w l x y) w _ ?_ ?_ w.toNat 0 (by omega) (by omega)
    · show impl_Frieze_keeps.l1v y h y w w h w l tx ty s = _
      rw [impl_Frieze_keeps.l1v_eq, if_neg (by omega), w64 (by omega) (by omega)]
    · intro x x0 x1
      show impl_Frieze_keeps.l1v y h y w x h w l tx ty s = _
      have yi := imgY_in (ty := ty) y0 y1
      rw [impl_Frieze_keeps.l1v_eq, if_pos x1, take_impl v s0 s1 x0 x1 y0 y1, Option.bind_some, at_impl v yi.1 yi.2, Option.bind_some, at_impl v y0 y1, Option.bind_some, w64 (by omega) (by omega), col_mod]
      by_cases q : col w l (imgX tx s x) (imgY h ty y) = col w l x y
      · rw [if_pos q, if_pos q]
      · rw [if_neg q, if_neg q]
  have outer := all_loop (fun y => impl_Frieze_keeps.l0v h y h w l tx ty s) (fun y => ∀ x, 0 ≤ x → x < w → col w l (imgX tx s x) (imgY h ty y) = col w l x y) h (some true) (by show impl_Frieze_keeps.l0v h h h w l tx ty s = _; rw [impl_Frieze_keeps.l0v_eq, if_neg (by omega)]) inner h.toNat 0 (by omega) (by omega)
  rw [outer]
  by_cases k : Keeps h w l tx ty s
  · rw [decide_eq_true k]; exact if_pos k
  · rw [decide_eq_false k]; exact if_neg k
theorem keeps_whole (h w : Int) (l : List Int) : Keeps h w l false false w := by
  intro y y0 y1 x x0 x1
  unfold col imgX imgY
  simp
/-- The period. -/
structure IsPeriod (h w : Int) (l : List Int) (p : Int) : Prop where
  p1 : 1 ≤ p
  pw : p ≤ w
  keeps : Keeps h w l false false p
  least : ∀ q, 1 ≤ q → q < p → ¬ Keeps h w l false false q
theorem period_both {h w : Int} {l : List Int} (v : FV h w l) : ∃ p, IsPeriod h w l p ∧ spec_l08Period.fv h w l = some p ∧ impl_Frieze_period.fv h w l = some p := by
  have a := v.w24
  rw [spec_l08Period.fv_eq, impl_Frieze_period.fv_eq]
  have go : ∀ (d : Nat) (n : Int), 1 ≤ n → n + d = w → (∀ q, 1 ≤ q → q < n → ¬ Keeps h w l false false q) → ∃ p, IsPeriod h w l p ∧ spec_l08Period.l0v n h w l = some p ∧ impl_Frieze_period.l0v n h w l = some p := by
    intro d
    induction d with
    | zero =>
      intro n n1 hn hq
      obtain rfl : n = w := by omega
      have hk := keeps_whole h n l
      refine ⟨n, ⟨n1, by omega, hk, hq⟩, ?_, ?_⟩
      · rw [spec_l08Period.l0v_eq, keeps_spec v (by omega) (by omega), Option.bind_some, if_pos (by simpa using hk)]
      · rw [impl_Frieze_period.l0v_eq, keeps_impl v (by omega) (by omega), Option.bind_some, if_pos (by simpa using hk)]
    | succ d ih =>
      intro n n1 hn hq
      by_cases hk : Keeps h w l false false n
      · refine ⟨n, ⟨n1, by omega, hk, hq⟩, ?_, ?_⟩
        · rw [spec_l08Period.l0v_eq, keeps_spec v (by omega) (by omega), Option.bind_some, if_pos (by simpa using hk)]
        · rw [impl_Frieze_period.l0v_eq, keeps_impl v (by omega) (by omega), Option.bind_some, if_pos (by simpa using hk)]
      · obtain ⟨p, h1, h2, h3⟩ := ih (n + 1) (by omega) (by omega) (fun q q1 q2 => by
          by_cases e : q = n
          · rw [e]; exact hk
          · exact hq q q1 (by omega))
        refine ⟨p, h1, ?_, ?_⟩
        · rw [spec_l08Period.l0v_eq, keeps_spec v (by omega) (by omega), Option.bind_some, if_neg (by simpa using hk), w64 (by omega) (by omega)]; exact h2
        · rw [impl_Frieze_period.l0v_eq, keeps_impl v (by omega) (by omega), Option.bind_some, if_neg (by simpa using hk), w64 (by omega) (by omega)]; exact h3
  exact go (w - 1).toNat 1 (by omega) (by have := v.w1; omega) (fun q h1 h2 => by omega)
end Go.Proofs.Ytjjockhekaccnaa.Q
namespace Go.Proofs.Ytjjockhekaccnaa.Q
open Go.RowKit Go.Proofs.Ytjjockhekaccnaa.X Go.Proofs.YtjjockhekaccnaaW.PrintWords Go.Proofs.YtjjockhekaccnaaW.PrintMore
set_option linter.unusedSimpArgs false
set_option linter.unusedVariables false

def inB (lo hi x : Int) : Bool := decide (lo ≤ x) && decide (x ≤ hi)
theorem inB_iff {lo hi x : Int} : inB lo hi x = true ↔ lo ≤ x ∧ x ≤ hi := by simp [inB]
theorem in_spec (x lo hi : Int) : spec_l01In.f x lo hi = some (inB lo hi x) := by
  unfold spec_l01In.f inB
  by_cases h : x ≥ lo
  · simp [h]
  · simp [h]
theorem in_impl (x lo hi : Int) : impl_within.f x lo hi = some (inB lo hi x) := by
  unfold impl_within.f inB
  by_cases h : x ≥ lo
  · simp [h]
  · simp [h]
theorem ite_some (b c : Bool) : (if b = true then some c else some false) = some (b && c) := by cases b <;> rfl
theorem ite_some_of (b c : Bool) (x : Option Bool) (h : b = true → x = some c) : (if b = true then x else some false) = some (b && c) := by
  cases b with
  | true => simp [h rfl]
  | false => rfl
def frB (f : Int) : Bool := inB 0 1 f
def latB (a b c : Int) : Bool := inB 1 64 a && (inB 1 64 c && (inB 0 (a - 1) b && decide (a * c ≤ 64)))
theorem latB_iff {a b c : Int} : latB a b c = true ↔ (1 ≤ a ∧ a ≤ 64) ∧ (1 ≤ c ∧ c ≤ 64) ∧ (0 ≤ b ∧ b ≤ a - 1) ∧ a * c ≤ 64 := by
  simp only [latB, Bool.and_eq_true, inB_iff, decide_eq_true_iff]
theorem mul_in {a c : Int} (a1 : 1 ≤ a) (a2 : a ≤ 64) (c1 : 1 ≤ c) (c2 : c ≤ 64) : 1 ≤ a * c ∧ a * c ≤ 4096 := by
  have h1 := Int.mul_le_mul a1 c1 (by omega) (by omega)
  have h2 := Int.mul_le_mul a2 c2 (by omega) (by omega)
  omega
theorem lat_spec (a b c : Int) : spec_IsLattice.f a b c = some (latB a b c) := by
  unfold spec_IsLattice.f latB
  rw [in_spec, Option.bind_some]
  refine ite_some_of _ _ _ (fun h => ?_)
  rw [in_spec, Option.bind_some]
  refine ite_some_of _ _ _ (fun h' => ?_)
  rw [inB_iff] at h h'
  have := mul_in h.1 h.2 h'.1 h'.2
  rw [w64 (x := a - 1) (by omega) (by omega), in_spec, Option.bind_some, w64 (x := a * c) (by omega) (by omega)]
  exact ite_some _ _
theorem index_impl {a b c : Int} (h1 : -9223372036854775808 ≤ a * c) (h2 : a * c ≤ 9223372036854775807) : impl_Lattice_index.f a b c = some (a * c) := by
  unfold impl_Lattice_index.f
  rw [w64 h1 h2]
theorem lat_impl (a b c : Int) : impl_IsLattice.f a b c = some (latB a b c) := by
  unfold impl_IsLattice.f latB
  rw [in_impl, Option.bind_some]
  refine ite_some_of _ _ _ (fun h => ?_)
  rw [in_impl, Option.bind_some]
  refine ite_some_of _ _ _ (fun h' => ?_)
  rw [inB_iff] at h h'
  have := mul_in h.1 h.2 h'.1 h'.2
  rw [w64 (x := a - 1) (by omega) (by omega), in_impl, Option.bind_some, index_impl (by omega) (by omega), Option.bind_some]
  exact ite_some _ _
theorem fr_spec (f : Int) : spec_IsFrame.f f = some (frB f) := by
  unfold spec_IsFrame.f frB inB
  by_cases h : f = 0
  · subst h; rfl
  · rw [if_neg h]
    congr 1
    rw [Bool.eq_iff_iff]
    simp
    omega
theorem fr_impl (f : Int) : impl_IsFrame.f f = some (frB f) := by
  unfold impl_IsFrame.f frB
  rw [in_impl]; rfl
def patB (f a b c : Int) (l : List Int) : Bool := (frB f && latB a b c) && (decide ((l.length : Int) = a * c) && l.all (inB 0 9))
theorem all_impl (l : List Int) (lo hi : Int) : impl_allWithin.f l lo hi = some (l.all (inB lo hi)) := rfl
theorem code_spec (f a b c : Int) : spec_l04Code.f f a b c = some (if frB f && latB a b c then 0 else 1) := by
  unfold spec_l04Code.f
  rw [fr_spec, Option.bind_some]
  cases frB f with
  | false => rfl
  | true =>
    rw [if_pos rfl, lat_spec, Option.bind_some]
    cases latB a b c <;> rfl
theorem within_all (l : List Int) (lo hi most : Int) (hl : l.length ≤ 9223372036854775807) : spec_l01Within.fv l most lo hi = some (l.all (inB lo hi) && decide ((l.length : Int) ≤ most)) := by
  rw [within_spec l lo hi most hl]
  congr 1
  rw [Bool.eq_iff_iff]
  simp [inB]
theorem lat_prod {a b c : Int} (h : latB a b c = true) : 1 ≤ a * c ∧ a * c ≤ 64 := by
  rw [latB_iff] at h
  have := mul_in h.1.1 h.1.2 h.2.1.1 h.2.1.2
  omega
theorem pat_spec (f a b c : Int) (l : List Int) (hl : l.length ≤ 9223372036854775807) : spec_IsPattern.fv f a b c l = some (patB f a b c l) := by
  rw [spec_IsPattern.fv_eq, code_spec, Option.bind_some]
  unfold patB
  cases hb : frB f && latB a b c with
  | false => rfl
  | true =>
    rw [Bool.and_eq_true] at hb
    have hp := lat_prod hb.2
    simp only [if_true, Bool.true_and]
    rw [w64 (by omega) (by omega)]
    by_cases e : (l.length : Int) = a * c
    · rw [if_pos e, within_all l 0 9 64 hl, Option.bind_some]
      simp only [decide_eq_true e, Bool.true_and, show (l.length : Int) ≤ 64 by omega, decide_true, Bool.and_true]
    · rw [if_neg e]
      simp [e]
theorem pat_impl (f a b c : Int) (l : List Int) : impl_IsPattern.f f a b c l = some (patB f a b c l) := by
  unfold impl_IsPattern.f patB
  rw [fr_impl, Option.bind_some]
  cases frB f with
  | false => rfl
  | true =>
    rw [if_pos rfl, lat_impl, Option.bind_some]
    cases hb : latB a b c with
    | false => rfl
    | true =>
      have hp := lat_prod hb
      rw [if_pos rfl, index_impl (by omega) (by omega), Option.bind_some, all_impl]
      by_cases e : (l.length : Int) = a * c
      · rw [if_pos e]; simp [e]
      · rw [if_neg e]; simp [e]
structure PV (f a b c : Int) (l : List Int) : Prop where
  fr : frB f = true
  lat : latB a b c = true
  len : (l.length : Int) = a * c
  cols : ∀ x ∈ l, 0 ≤ x ∧ x ≤ 9
theorem pv_of {f a b c : Int} {l : List Int} (h : patB f a b c l = true) : PV f a b c l := by
  unfold patB at h
  simp only [Bool.and_eq_true, List.all_eq_true, inB_iff, decide_eq_true_iff] at h
  exact ⟨h.1.1, h.1.2, h.2.1, h.2.2⟩
theorem PV.l64 {f a b c : Int} {l : List Int} (v : PV f a b c l) : 1 ≤ l.length ∧ l.length ≤ 64 := by
  have := lat_prod v.lat
  have := v.len
  omega
/-! ### the laws' helpers on patterns -/
theorem szPattern_v (f a b c : Int) (l : List Int) (hl : l.length ≤ maxLen) : laws_szPattern.f f a b c l 1048576 = some (if (l.length : Int) ≤ 1048576 then 1048576 - (l.length : Int) else -1) := by
  unfold laws_szPattern.f
  rw [szInts l 1048576 (by omega) (by omega) hl, Option.bind_some]
  by_cases hs : (l.length : Int) ≤ 1048576
  · rw [if_pos hs, if_neg (by omega)]
  · rw [if_neg hs, if_pos (by omega)]
theorem toPattern_v (f a b c : Int) (l : List Int) (hl : l.length ≤ 35184372088832) : laws_toPattern.fv f a b c l = some (f, a, b, c, l) := by
  rw [laws_toPattern.fv_eq, toInts l hl]; rfl
theorem eqLattice_v (a b c : Int) : laws_eqLattice.f a b c a b c = some true := by unfold laws_eqLattice.f; simp
theorem eqPattern_v (f a b c : Int) (l : List Int) (hl : l.length ≤ 4611686018427387904) : laws_eqPattern.fv f a b c l f a b c l = some true := by
  rw [laws_eqPattern.fv_eq, if_pos rfl, eqLattice_v, Option.bind_some, if_pos rfl, eqInts l l hl]; simp
end Go.Proofs.Ytjjockhekaccnaa.Q
namespace Go.Proofs.Ytjjockhekaccnaa.Q
open Go.RowKit Go.Proofs.Ytjjockhekaccnaa.X Go.Proofs.YtjjockhekaccnaaW.PrintWords Go.Proofs.YtjjockhekaccnaaW.PrintMore
theorem markPattern_v (f a b c : Int) (l : List Int) (hl : l.length ≤ 1048576) : laws_markPattern.fv f a b c l 1 = some (1 + (l.length : Int), marks 1 l.length) := by
  rw [laws_markPattern.fv_eq, markInts l 1 (by omega) (by omega)]; rfl
theorem heldPattern_v (f a b c : Int) (n : Nat) (hn : n ≤ 1048576) : laws_heldPattern.fv f a b c (marks 1 n) 1 = some (1 + (n : Int)) := by
  rw [laws_heldPattern.fv_eq, heldInts 1 n (by omega) (by omega), Option.bind_some, if_neg (by omega)]
end Go.Proofs.Ytjjockhekaccnaa.Q
namespace Go.Proofs.Ytjjockhekaccnaa.Q
open Go.RowKit Go.Proofs.Ytjjockhekaccnaa.X Go.Proofs.YtjjockhekaccnaaW.PrintWords Go.Proofs.YtjjockhekaccnaaW.PrintMore
set_option linter.unusedSimpArgs false
set_option linter.unusedVariables false

def maskL (ink : Int) (l : List Int) : List Int := l.map fun x => if x = ink then 1 else 0
theorem maskL_len (ink : Int) (l : List Int) : (maskL ink l).length = l.length := by simp [maskL]
theorem mask_spec (f a b c : Int) (l : List Int) (ink : Int) (hl : l.length ≤ 1048576) : spec_l25Mask.fv f a b c l ink = some (f, a, b, c, maskL ink l) := by
  rw [spec_l25Mask.fv_eq]
  have go : ∀ (d i : Nat) (o : List Int), i + d = l.length → o.length = i → spec_l25Mask.l0v ink (i : Int) f a b c l f a b c o = some (f, a, b, c, o ++ maskL ink (l.drop i)) := by
    intro d
    induction d with
    | zero =>
      intro i o hi ho
      rw [spec_l25Mask.l0v_eq, if_neg (by omega), List.drop_of_length_le (by omega)]
      simp [maskL]
    | succ d ih =>
      intro i o hi ho
      have hlt : i < l.length := by omega
      rw [spec_l25Mask.l0v_eq, if_pos (by omega), if_pos (by omega), rd_nat hlt, w64 (by omega) (by omega), List.drop_eq_getElem_cons hlt]
      by_cases e : l[i] = ink
      · rw [if_pos e, if_pos (by omega), show ((i : Int) + 1) = ((i + 1 : Nat) : Int) by omega, ih (i + 1) _ (by omega) (by simp [ho])]
        simp only [maskL, List.map_cons, e, if_true, if_false, List.append_assoc, List.singleton_append]
      · rw [if_neg e, if_pos (by omega), show ((i : Int) + 1) = ((i + 1 : Nat) : Int) by omega, ih (i + 1) _ (by omega) (by simp [ho])]
        simp only [maskL, List.map_cons, e, if_true, if_false, List.append_assoc, List.singleton_append]
  have := go l.length 0 [] (by omega) rfl
  simpa using this
theorem mask_impl (f a b c : Int) (l : List Int) (ink : Int) (hl : l.length ≤ 1048576) : impl_Pattern_mask.fv f a b c l ink = some (f, a, b, c, maskL ink l) := by
  rw [impl_Pattern_mask.fv_eq]
  have go : ∀ (d i : Nat) (o : List Int), i + d = l.length → o.length = i → impl_Pattern_mask.l0v ink l (l.length : Int) (i : Int) f a b c o = some (f, a, b, c, o ++ maskL ink (l.drop i)) := by
    intro d
    induction d with
    | zero =>
      intro i o hi ho
      rw [impl_Pattern_mask.l0v_eq, if_neg (by omega), List.drop_of_length_le (by omega)]
      simp [maskL]
    | succ d ih =>
      intro i o hi ho
      have hlt : i < l.length := by omega
      rw [impl_Pattern_mask.l0v_eq, if_pos (by omega), if_pos (by omega), if_pos (by omega), rd_nat hlt, w64 (by omega) (by omega), List.drop_eq_getElem_cons hlt]
      by_cases e : l[i] = ink
      · rw [if_pos e, if_pos (by omega), show ((i : Int) + 1) = ((i + 1 : Nat) : Int) by omega, ih (i + 1) _ (by omega) (by simp [ho])]
        simp only [maskL, List.map_cons, e, if_true, if_false, List.append_assoc, List.singleton_append]
      · rw [if_neg e, if_pos (by omega), show ((i : Int) + 1) = ((i + 1 : Nat) : Int) by omega, ih (i + 1) _ (by omega) (by simp [ho])]
        simp only [maskL, List.map_cons, e, if_true, if_false, List.append_assoc, List.singleton_append]
  have := go l.length 0 [] (by omega) rfl
  simpa using this
end Go.Proofs.Ytjjockhekaccnaa.Q
namespace Go.Proofs.Ytjjockhekaccnaa.Pure
open Go.RowKit Go.Proofs.Ytjjockhekaccnaa.X Go.Proofs.Ytjjockhekaccnaa.Q Go.Proofs.YtjjockhekaccnaaW.PrintWords
set_option linter.unusedSimpArgs false
set_option linter.unusedVariables false

theorem maskOf_both (f a b c : Int) (l : List Int) (ink : Int) (hl : l.length ≤ 1048576) : ∃ (gf ga gb gc : Int) (gl : List Int) (e : Int), gl.length ≤ 1048576 ∧ spec_MaskOf.fv f a b c l ink = some (gf, ga, gb, gc, gl, e) ∧ impl_MaskOf.fv f a b c l ink = some (gf, ga, gb, gc, gl, e) := by
  rw [spec_MaskOf.fv_eq, impl_MaskOf.fv_eq, in_spec, Option.bind_some, spec_l25Code.fv_eq, pat_spec f a b c l (by omega), pat_impl]
  unfold impl_isInk.f
  simp only [Option.bind_some, in_impl]
  cases hp : patB f a b c l with
  | false => exact ⟨0, 0, 0, 0, [], 1, by simp, by simp, by simp⟩
  | true =>
    cases hi : inB 1 9 ink with
    | false => exact ⟨0, 0, 0, 0, [], 2, by simp, by simp, by simp⟩
    | true =>
      have h1 := mask_spec f a b c l ink (by omega)
      have h2 := mask_impl f a b c l ink (by omega)
      simp only [if_true, Option.bind_some, h1, h2]
      exact ⟨_, _, _, _, _, _, by rw [maskL_len]; exact hl, rfl, rfl⟩
theorem FnExactMaskOf : laws_FnExactMaskOf.Pure := by
  intro f a b c l ink ⟨wf, wl, hl, wc⟩ _
  apply lim_some (laws_FnExactMaskOf.f_mono f a b c l ink)
  show laws_FnExactMaskOf.fv f a b c l ink = some true
  rw [laws_FnExactMaskOf.fv_eq, szPattern_v f a b c l hl, Option.bind_some]
  by_cases hs : (l.length : Int) ≤ 1048576
  · rw [if_pos hs, if_neg (by omega)]
    have ht := toPattern_v f a b c l (by omega)
    obtain ⟨gf, ga, gb, gc, gl, e, hg, h1, h2⟩ := maskOf_both f a b c l ink (by omega)
    have m1 := markPattern_v f a b c l (by omega)
    have m2 := markPattern_v gf ga gb gc gl hg
    have n2 := heldPattern_v gf ga gb gc gl.length hg
    have e1 := eqPattern_v f a b c l (by omega)
    have e2 := eqPattern_v gf ga gb gc gl (by omega)
    have p1 : ¬ (1 + (l.length : Int) < 0) := by omega
    have p2 : ¬ (1 + (gl.length : Int) < 0) := by omega
    simp only [ht, h1, h2, Option.bind_some, e2, if_true, bne_self_eq_false, e1, m1, p1, if_false, m2, n2, p2, Bool.false_eq_true]
  · rw [if_neg hs, if_pos (by omega)]
end Go.Proofs.Ytjjockhekaccnaa.Pure
