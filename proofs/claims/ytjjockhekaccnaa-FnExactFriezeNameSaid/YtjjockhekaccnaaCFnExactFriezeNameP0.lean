/- Part of the proof of the law FnExactFriezeName: the plain statement. No condition of its own. -/
import Derived.Test.YtjjockhekaccnaaCFnExactFriezeNameE0
namespace Go.Proofs.Ytjjockhekaccnaa.X
open Go.RowKit Go.Proofs.YtjjockhekaccnaaW.PrintWords Go.Proofs.YtjjockhekaccnaaW.PrintLast Go.Proofs.YtjjockhekaccnaaW.PrintMore
def yJ.Pure : Prop := ∀ (a0_0 : Int) (a0_1 : Int) (l0_2 : List Int), ((Lit.int .i64 a0_0).wf = true ∧ (Lit.int .i64 a0_1).wf = true ∧ (l0_2.length ≤ maxLen ∧ ∀ x_ ∈ l0_2, (Lit.int .i64 x_).wf = true)) → ∃ k, yJ.f k a0_0 a0_1 l0_2 = some true
end Go.Proofs.Ytjjockhekaccnaa.X
namespace Go.Proofs.Ytjjockhekaccnaa.Q
open Go.RowKit Go.Proofs.Ytjjockhekaccnaa.X Go.Proofs.YtjjockhekaccnaaW.PrintWords Go.Proofs.YtjjockhekaccnaaW.PrintMore
theorem w64 {x : Int} (h : -9223372036854775808 ≤ x) (h' : x ≤ 9223372036854775807) : wrap64 x = x := by unfold wrap64; omega
theorem maxLen_eq : maxLen = 9223372036854775807 := rfl
theorem rd_eq {l : List Int} {i : Int} (h : 0 ≤ i) (h' : i < l.length) : rd l i = l[i.toNat]'(by omega) := by
  unfold rd
  rw [List.getD_eq_getElem?_getD, List.getElem?_eq_getElem (by omega)]
  rfl
theorem rd_nat {l : List Int} {i : Nat} (h : i < l.length) : rd l (i : Int) = l[i] := by
  rw [rd_eq (by omega) (by omega)]
  simp
theorem rd_nat' (l : List Int) (i : Nat) : rd l (i : Int) = l.getD i 0 := by
  unfold rd
  rw [Int.toNat_natCast]
theorem tmod_small {a n : Int} (h : 0 ≤ a) (h' : a < n) : Int.tmod a n = a := Int.tmod_eq_of_lt h h'
theorem tmod_emod {a n : Int} (hn : 0 < n) : Int.tmod a n = if 0 ≤ a ∨ n ∣ a then a % n else a % n - n := by
  rw [Int.tmod_eq_emod]
  by_cases h : 0 ≤ a ∨ n ∣ a
  · rw [if_pos h, if_pos h]; omega
  · rw [if_neg h, if_neg h]; omega
/-- The remainder that is at least 0, as both programs reckon it. -/
theorem mod_spec {a n : Int} (hn : 0 < n) (hn' : n ≤ 4611686018427387904) : xA.f a n = some (a % n) := by
  unfold xA.f
  rw [if_neg (by omega)]
  have h0 := Int.emod_nonneg a (show n ≠ 0 by omega)
  have h1 := Int.emod_lt_of_pos a hn
  by_cases h : 0 ≤ a ∨ n ∣ a
  · rw [tmod_emod hn, if_pos h, if_neg (by omega)]
  · rw [tmod_emod hn, if_neg h, if_pos (by omega), w64 (by omega) (by omega)]
    congr 1
    omega
theorem mod_impl {a n : Int} (hn : 0 < n) (hn' : n ≤ 4611686018427387904) : yR.f a n = some (a % n) := by
  unfold yR.f
  rw [if_neg (by omega)]
  have h0 := Int.emod_nonneg a (show n ≠ 0 by omega)
  have h1 := Int.emod_lt_of_pos a hn
  by_cases h : 0 ≤ a ∨ n ∣ a
  · rw [tmod_emod hn (a := a), if_pos h, w64 (by omega) (by omega), tmod_emod hn, if_pos (by omega), Int.add_emod_right, Int.emod_emod_of_dvd _ (Int.dvd_refl n)]
  · rw [tmod_emod hn (a := a), if_neg h, w64 (by omega) (by omega), tmod_emod hn, if_pos (by omega)]
    congr 1
    rw [show a % n - n + n = a % n by omega, Int.emod_emod_of_dvd _ (Int.dvd_refl n)]
theorem rd_replicate (n : Nat) (i : Int) : rd (List.replicate n 0) i = 0 := by
  unfold rd
  rw [List.getD_eq_getElem?_getD, List.getElem?_replicate]
  split <;> rfl
def iter {σ : Type} (step : Int → σ → σ) : Nat → Int → σ → σ
  | 0, _, s => s
  | d + 1, i, s => iter step d (i + 1) (step i s)
/-- A loop from i to n that turns its state at each round and ends with fin. -/
theorem fold_loop {σ ρ : Type} (F : Int → σ → ρ) (step : Int → σ → σ) (Inv : σ → Prop) (n : Int) (fin : σ → ρ) (hn : ∀ s, Inv s → F n s = fin s) (hs : ∀ i s, 0 ≤ i → i < n → Inv s → F i s = F (i + 1) (step i s) ∧ Inv (step i s)) :
    ∀ (d : Nat) (i : Int) (s : σ), 0 ≤ i → i + d = n → Inv s → F i s = fin (iter step d i s) ∧ Inv (iter step d i s) := by
  intro d
  induction d with
  | zero =>
    intro i s h0 hi hv
    obtain rfl : i = n := by omega
    exact ⟨hn s hv, hv⟩
  | succ d ih =>
    intro i s h0 hi hv
    obtain ⟨h1, h2⟩ := hs i s h0 (by omega) hv
    rw [h1]
    exact ih (i + 1) _ (by omega) (by omega) h2
theorem toInts_loop (l : List Int) (hn : l.length ≤ 35184372088832) : ∀ (d i : Nat) (x3 : List Int), i + d = l.length → x3.length = l.length → (∀ j, j < i → x3[j]? = l[j]?) → yH.l0v l x3 (i : Int) = some l := by
  intro d
  induction d with
  | zero =>
    intro i x3 hi hx hj
    rw [yH.l0v_eq, if_neg (by omega)]
    congr 1
    apply List.ext_getElem?
    intro j
    by_cases h : j < l.length
    · exact hj j (by omega)
    · rw [List.getElem?_eq_none (by omega), List.getElem?_eq_none (by omega)]
  | succ d ih =>
    intro i x3 hi hx hj
    rw [yH.l0v_eq, if_pos (by omega), if_pos (by omega), if_pos (by omega), w64 (by omega) (by omega)]
    refine ih (i + 1) _ (by omega) (by simpa using hx) (fun j h => ?_)
    rw [Int.toNat_natCast, rd_nat (by omega)]
    by_cases e : j = i
    · subst e
      rw [List.getElem?_set_self (by omega), List.getElem?_eq_getElem (by omega)]
    · rw [List.getElem?_set_ne (by omega)]
      exact hj j (by omega)
theorem toInts (l : List Int) (hn : l.length ≤ 35184372088832) : yH.fv l = some l := by
  rw [yH.fv_eq, if_pos (by omega), if_pos (by omega)]
  exact toInts_loop l hn l.length 0 _ (by omega) (by simp) (fun j h => absurd h (Nat.not_lt_zero _))
theorem szInts (l : List Int) (n : Int) (h0 : 0 ≤ n) (h1 : n ≤ 1048576) (hl : l.length ≤ maxLen) : yZ.f l n = some (if (l.length : Int) ≤ n then n - l.length else -1) := by
  rw [maxLen_eq] at hl
  unfold yZ.f
  rw [w64 (by omega) (by omega)]
  by_cases h : (l.length : Int) ≤ n
  · rw [if_neg (by omega), if_pos h]
  · rw [if_pos (by omega), if_neg h]
theorem eqInts_loop (a b : List Int) (hn : a.length ≤ 4611686018427387904) (hab : a.length = b.length) : ∀ (d i : Nat), i + d = a.length → (∀ j, j < i → a[j]? = b[j]?) → yI.l0v a b (i : Int) = some (decide (a = b)) := by
  intro d
  induction d with
  | zero =>
    intro i hi hj
    rw [yI.l0v_eq, if_neg (by omega)]
    have : a = b := by
      apply List.ext_getElem?
      intro j
      by_cases h : j < a.length
      · exact hj j (by omega)
      · rw [List.getElem?_eq_none (by omega), List.getElem?_eq_none (by omega)]
    simp [this]
  | succ d ih =>
    intro i hi hj
    rw [yI.l0v_eq, if_pos (by omega), if_pos (by omega), if_pos (by omega), rd_nat (by omega), rd_nat (by omega)]
    by_cases e : a[i]'(by omega) = b[i]'(by omega)
    · rw [if_pos e, w64 (by omega) (by omega)]
      refine ih (i + 1) (by omega) (fun j h => ?_)
      by_cases e' : j = i
      · subst e'
        rw [List.getElem?_eq_getElem (by omega), List.getElem?_eq_getElem (by omega), e]
      · exact hj j (by omega)
    · rw [if_neg e]
      have : a ≠ b := by
        rintro rfl
        exact e rfl
      simp [this]
theorem eqInts (a b : List Int) (hn : a.length ≤ 4611686018427387904) : yI.fv a b = some (decide (a = b)) := by
  rw [yI.fv_eq]
  by_cases h : a.length = b.length
  · rw [if_pos (by omega)]
    exact eqInts_loop a b hn h a.length 0 (by omega) (fun j h => absurd h (Nat.not_lt_zero _))
  · rw [if_neg (by omega)]
    have : a ≠ b := by
      rintro rfl
      exact h rfl
    simp [this]
/-- What marking leaves: the numbers from k on. -/
def marks (k : Int) (n : Nat) : List Int := (List.range n).map fun j : Nat => k + (j : Int)
theorem marks_length (k : Int) (n : Nat) : (marks k n).length = n := by simp [marks]
theorem marks_get (k : Int) (n j : Nat) (h : j < n) : (marks k n)[j]? = some (k + j) := by simp [marks, h]
theorem markInts_loop (k : Int) (n : Nat) (hk : 0 ≤ k) (hn : k + n ≤ 4611686018427387904) : ∀ (d i : Nat) (x0 : List Int), i + d = n → x0.length = n → (∀ j, j < i → x0[j]? = some (k + j)) → yF.l0v x0 (k + i) (i : Int) = some (k + n, marks k n) := by
  intro d
  induction d with
  | zero =>
    intro i x0 hi hx hj
    rw [yF.l0v_eq, if_neg (by omega)]
    obtain rfl : i = n := by omega
    congr 2
    apply List.ext_getElem?
    intro j
    by_cases h : j < i
    · rw [hj j h, marks_get _ _ _ h]
    · rw [List.getElem?_eq_none (by omega), List.getElem?_eq_none (by rw [marks_length]; omega)]
  | succ d ih =>
    intro i x0 hi hx hj
    rw [yF.l0v_eq, if_pos (by omega), if_pos (by omega), w64 (by omega) (by omega), w64 (by omega) (by omega), Int.toNat_natCast]
    have := ih (i + 1) (x0.set i (k + i)) (by omega) (by simpa using hx) (fun j h => by
      by_cases e : j = i
      · subst e
        rw [List.getElem?_set_self (by omega)]
      · rw [List.getElem?_set_ne (by omega)]
        exact hj j (by omega))
    rw [show k + (i : Int) + 1 = k + ((i + 1 : Nat) : Int) by omega]
    exact this
theorem markInts (l : List Int) (k : Int) (hk : 0 ≤ k) (hn : k + l.length ≤ 4611686018427387904) : yF.fv l k = some (k + l.length, marks k l.length) := by
  rw [yF.fv_eq]
  have := markInts_loop k l.length hk hn l.length 0 l (by omega) rfl (fun j h => absurd h (Nat.not_lt_zero _))
  simpa using this
theorem heldInts_loop (k : Int) (n : Nat) (hk : 0 ≤ k) (hn : k + n ≤ 4611686018427387904) : ∀ (d i : Nat), i + d = n → yG.l0v (marks k n) (k + i) (i : Int) = some (k + n) := by
  intro d
  induction d with
  | zero =>
    intro i hi
    rw [yG.l0v_eq, if_neg (by rw [marks_length]; omega)]
    obtain rfl : i = n := by omega
    rfl
  | succ d ih =>
    intro i hi
    have e : rd (marks k n) (i : Int) = k + i := by
      rw [rd_nat', List.getD_eq_getElem?_getD, marks_get _ _ _ (by omega)]; rfl
    rw [yG.l0v_eq, if_pos (by rw [marks_length]; omega), if_pos (by omega), if_pos e, w64 (by omega) (by omega), w64 (by omega) (by omega)]
    have := ih (i + 1) (by omega)
    rw [show k + (i : Int) + 1 = k + ((i + 1 : Nat) : Int) by omega]
    exact this
theorem heldInts (k : Int) (n : Nat) (hk : 0 ≤ k) (hn : k + n ≤ 4611686018427387904) : yG.fv (marks k n) k = some (k + n) := by
  rw [yG.fv_eq]
  have := heldInts_loop k n hk hn n 0 (by omega)
  simpa using this
open Classical in
/-- A loop that asks something of each i and ends with r. -/
theorem all_loop (F : Int → Option Bool) (P : Int → Prop) (n : Int) (r : Option Bool) (hn : F n = r) (hs : ∀ i, 0 ≤ i → i < n → F i = if P i then F (i + 1) else some false) :
    ∀ (d : Nat) (i : Int), 0 ≤ i → i + d = n → F i = if (∀ j, i ≤ j → j < n → P j) then r else some false := by
  intro d
  induction d with
  | zero =>
    intro i h0 hi
    rw [if_pos (fun j h1 h2 => by omega), ← hn]
    congr 1; omega
  | succ d ih =>
    intro i h0 hi
    rw [hs i h0 (by omega)]
    by_cases hp : P i
    · rw [if_pos hp, ih (i + 1) (by omega) (by omega)]
      by_cases hq : ∀ j, i + 1 ≤ j → j < n → P j
      · rw [if_pos hq, if_pos (fun j h1 h2 => by
          by_cases e : j = i
          · rw [e]; exact hp
          · exact hq j (by omega) h2)]
      · rw [if_neg hq, if_neg (fun h => hq fun j h1 h2 => h j (by omega) h2)]
    · rw [if_neg hp, if_neg (fun h => hp (h i (by omega) (by omega)))]
structure FV (h w : Int) (l : List Int) : Prop where
  h1 : 1 ≤ h
  h6 : h ≤ 6
  w1 : 1 ≤ w
  w24 : w ≤ 24
  len : (l.length : Int) = h * w
  cells : ∀ x ∈ l, 0 ≤ x ∧ x ≤ 9
noncomputable instance (h w : Int) (l : List Int) : Decidable (FV h w l) := Classical.propDecidable _
theorem FV.le {h w : Int} {l : List Int} (v : FV h w l) : h * w ≤ 144 := by
  have := Int.mul_le_mul v.h6 v.w24 (by have := v.w1; omega) (by omega)
  omega
theorem FV.pos {h w : Int} {l : List Int} (v : FV h w l) : 1 ≤ h * w := by
  have := Int.mul_le_mul v.h1 v.w1 (by omega) (by have := v.h1; omega)
  omega
theorem FV.idx {h w : Int} {l : List Int} (v : FV h w l) {x y : Int} (y0 : 0 ≤ y) (y1 : y < h) : 0 ≤ y * w ∧ 0 ≤ y * w + x % w ∧ y * w + x % w < l.length ∧ 0 ≤ x % w := by
  have a := Int.emod_nonneg x (show w ≠ 0 by have := v.w1; omega)
  have b := Int.emod_lt_of_pos x (show 0 < w by have := v.w1; omega)
  have c := Int.mul_nonneg y0 (show 0 ≤ w by have := v.w1; omega)
  have d := Int.mul_le_mul_of_nonneg_right (show y ≤ h - 1 by omega) (show 0 ≤ w by have := v.w1; omega)
  rw [Int.sub_mul] at d
  have e := v.len
  omega
open Classical in
theorem within_spec (l : List Int) (lo hi most : Int) (hl : l.length ≤ 9223372036854775807) : yD.fv l most lo hi = some (decide ((∀ x ∈ l, lo ≤ x ∧ x ≤ hi) ∧ (l.length : Int) ≤ most)) := by
  rw [yD.fv_eq]
  have := all_loop (fun i => yD.l0v l most lo hi i) (fun i => lo ≤ rd l i ∧ rd l i ≤ hi) l.length (some (decide ((l.length : Int) ≤ most)))
    (by show yD.l0v l most lo hi _ = _; rw [yD.l0v_eq, if_neg (by omega)])
    (fun i h0 h1 => by
      show yD.l0v l most lo hi _ = _
      rw [yD.l0v_eq, if_pos h1, if_pos h0]
      unfold yP.f
      rw [w64 (by omega) (by omega)]
      by_cases a : lo ≤ rd l i
      · rw [if_pos a, Option.bind_some]
        by_cases b : rd l i ≤ hi
        · rw [if_pos (by simpa using b), if_pos ⟨a, b⟩]
        · rw [if_neg (by simpa using b), if_neg (fun h => b h.2)]
      · rw [if_neg a, Option.bind_some, if_neg (by simp), if_neg (fun h => a h.1)]) l.length 0 (by omega) (by omega)
  rw [this]
  have e : (∀ j : Int, 0 ≤ j → j < l.length → lo ≤ rd l j ∧ rd l j ≤ hi) ↔ ∀ x ∈ l, lo ≤ x ∧ x ≤ hi := by
    constructor
    · intro h x hx
      obtain ⟨j, hj, rfl⟩ := List.mem_iff_getElem.1 hx
      have := h j (by omega) (by omega)
      rwa [rd_nat hj] at this
    · intro h j h0 h1
      rw [rd_eq h0 h1]
      exact h _ (List.getElem_mem _)
  by_cases h : ∀ x ∈ l, lo ≤ x ∧ x ≤ hi
  · rw [if_pos (e.2 h)]
    congr 1
    exact decide_eq_decide.2 ⟨fun q => ⟨h, q⟩, fun q => q.2⟩
  · rw [if_neg (fun k => h (e.1 k))]
    congr 1
    simp only [h, false_and, decide_false]
theorem prod_in {h w : Int} (h1 : 1 ≤ h) (h6 : h ≤ 6) (w1 : 1 ≤ w) (w24 : w ≤ 24) : wrap64 (h * w) = h * w := by
  have a := Int.mul_nonneg (show 0 ≤ h by omega) (show 0 ≤ w by omega)
  have b := Int.mul_le_mul h6 w24 (by omega) (by omega)
  exact w64 (by omega) (by omega)
theorem isFrieze_spec (h w : Int) (l : List Int) (hl : l.length ≤ 9223372036854775807) : yM.fv h w l = some (decide (FV h w l)) := by
  rw [yM.fv_eq]
  unfold yP.f
  by_cases a : 1 ≤ h
  · rw [if_pos a, Option.bind_some]
    by_cases b : h ≤ 6
    · rw [if_pos (by simpa using b)]
      by_cases c : 1 ≤ w
      · rw [if_pos c, Option.bind_some]
        by_cases d : w ≤ 24
        · rw [if_pos (by simpa using d), prod_in a b c d]
          by_cases e : (l.length : Int) = h * w
          · rw [if_pos e, within_spec l 0 9 144 hl, Option.bind_some]
            congr 1
            rw [decide_eq_decide]
            constructor
            · rintro ⟨f, _⟩; exact ⟨a, b, c, d, e, f⟩
            · intro v; exact ⟨v.cells, by have := v.le; omega⟩
          · rw [if_neg e]
            simp only [Option.some.injEq]
            exact (decide_eq_false (fun v => e v.len)).symm
        · rw [if_neg (by simpa using d)]
          simp only [Option.some.injEq]
          exact (decide_eq_false (fun v => d v.w24)).symm
      · rw [if_neg c, Option.bind_some, if_neg (by simp)]
        simp only [Option.some.injEq]
        exact (decide_eq_false (fun v => c v.w1)).symm
    · rw [if_neg (by simpa using b)]
      simp only [Option.some.injEq]
      exact (decide_eq_false (fun v => b v.h6)).symm
  · rw [if_neg a, Option.bind_some, if_neg (by simp)]
    simp only [Option.some.injEq]
    exact (decide_eq_false (fun v => a v.h1)).symm
theorem isFrieze_impl (h w : Int) (l : List Int) : yW.f h w l = some (decide (FV h w l)) := by
  unfold yW.f yS.f yT.f
  by_cases a : 1 ≤ h
  · rw [if_pos a, Option.bind_some]
    by_cases b : h ≤ 6
    · rw [if_pos (by simpa using b)]
      by_cases c : 1 ≤ w
      · rw [if_pos c, Option.bind_some]
        by_cases d : w ≤ 24
        · rw [if_pos (by simpa using d), prod_in a b c d]
          by_cases e : (l.length : Int) = h * w
          · rw [if_pos e, Option.bind_some]
            congr 1
            rw [Bool.eq_iff_iff, List.all_eq_true, decide_eq_true_iff]
            constructor
            · intro f; exact ⟨a, b, c, d, e, fun x hx => by simpa using f x hx⟩
            · intro v x hx; simpa using v.cells x hx
          · rw [if_neg e]
            simp only [Option.some.injEq]
            exact (decide_eq_false (fun v => e v.len)).symm
        · rw [if_neg (by simpa using d)]
          simp only [Option.some.injEq]
          exact (decide_eq_false (fun v => d v.w24)).symm
      · rw [if_neg c, Option.bind_some, if_neg (by simp)]
        simp only [Option.some.injEq]
        exact (decide_eq_false (fun v => c v.w1)).symm
    · rw [if_neg (by simpa using b)]
      simp only [Option.some.injEq]
      exact (decide_eq_false (fun v => b v.h6)).symm
  · rw [if_neg a, Option.bind_some, if_neg (by simp)]
    simp only [Option.some.injEq]
    exact (decide_eq_false (fun v => a v.h1)).symm
def col (w : Int) (l : List Int) (x y : Int) : Int := rd l (y * w + x % w)
theorem at_spec {h w : Int} {l : List Int} (v : FV h w l) {x y : Int} (y0 : 0 ≤ y) (y1 : y < h) : yU.f h w l x y = some (col w l x y) := by
  have i := v.idx (x := x) y0 y1
  have b := v.le
  have e := v.len
  unfold yU.f
  rw [mod_spec (by have := v.w1; omega) (by have := v.w24; omega), Option.bind_some, w64 (x := y * w) (by omega) (by omega), w64 (by omega) (by omega), if_pos i.2.1, if_pos i.2.2.1]
  rfl
theorem at_impl {h w : Int} {l : List Int} (v : FV h w l) {x y : Int} (y0 : 0 ≤ y) (y1 : y < h) : yQ.f h w l x y = some (col w l x y) := by
  have i := v.idx (x := x) y0 y1
  have b := v.le
  have e := v.len
  unfold yQ.f
  rw [mod_impl (by have := v.w1; omega) (by have := v.w24; omega), Option.bind_some, w64 (x := y * w) (by omega) (by omega), w64 (by omega) (by omega), if_pos i.2.1, if_pos i.2.2.1]
  rfl
def imgX (tx : Bool) (s x : Int) : Int := s + (if tx = true then -x else x)
def imgY (h : Int) (ty : Bool) (y : Int) : Int := if ty = true then h - 1 - y else y
theorem imgY_in {h : Int} {ty : Bool} {y : Int} (y0 : 0 ≤ y) (y1 : y < h) : 0 ≤ imgY h ty y ∧ imgY h ty y < h := by
  unfold imgY; split <;> omega
theorem image_spec {h w : Int} {l : List Int} (v : FV h w l) {tx ty : Bool} {s x y : Int} (s0 : -1000 ≤ s) (s1 : s ≤ 1000) (x0 : 0 ≤ x) (x1 : x < w) (y0 : 0 ≤ y) (y1 : y < h) : yY.f h w l tx ty s x y = some (imgX tx s x, imgY h ty y) := by
  have a := v.w24
  have b := v.h6
  have c := v.h1
  unfold yY.f imgX imgY
  cases tx <;> cases ty <;> simp
  · exact w64 (by omega) (by omega)
  · exact ⟨w64 (by omega) (by omega), by rw [w64 (x := h - 1) (by omega) (by omega), w64 (by omega) (by omega)]⟩
  · rw [w64 (x := -x) (by omega) (by omega)]; exact w64 (by omega) (by omega)
  · rw [w64 (x := -x) (by omega) (by omega)]
    exact ⟨w64 (by omega) (by omega), by rw [w64 (x := h - 1) (by omega) (by omega), w64 (by omega) (by omega)]⟩
theorem take_impl {h w : Int} {l : List Int} (v : FV h w l) {tx ty : Bool} {s x y : Int} (s0 : -1000 ≤ s) (s1 : s ≤ 1000) (x0 : 0 ≤ x) (x1 : x < w) (y0 : 0 ≤ y) (y1 : y < h) : yV.f h w l tx ty s x y = some (imgX tx s x % w, imgY h ty y) := by
  have a := v.w24
  have b := v.h6
  have c := v.h1
  have d := v.w1
  unfold yV.f imgX imgY
  have hm : ∀ z : Int, yR.f z w = some (z % w) := fun z => mod_impl (by omega) (by omega)
  cases tx <;> cases ty <;> simp [hm]
  · rw [w64 (by omega) (by omega), Int.add_comm]
  · rw [w64 (x := x + s) (by omega) (by omega), Int.add_comm, w64 (x := h - 1) (by omega) (by omega), w64 (x := h - 1 - y) (by omega) (by omega)]; exact ⟨rfl, rfl⟩
  · rw [w64 (x := -x) (by omega) (by omega), w64 (by omega) (by omega), Int.add_comm]
  · rw [w64 (x := -x) (by omega) (by omega), w64 (x := -x + s) (by omega) (by omega), Int.add_comm, w64 (x := h - 1) (by omega) (by omega), w64 (x := h - 1 - y) (by omega) (by omega)]; exact ⟨rfl, rfl⟩
theorem col_mod (w : Int) (l : List Int) (x y : Int) : col w l (x % w) y = col w l x y := by
  unfold col
  rw [Int.emod_emod_of_dvd _ (Int.dvd_refl w)]
/-- A motion keeps each cell's colour. -/
def Keeps (h w : Int) (l : List Int) (tx ty : Bool) (s : Int) : Prop := ∀ y, 0 ≤ y → y < h → ∀ x, 0 ≤ x → x < w → col w l (imgX tx s x) (imgY h ty y) = col w l x y
noncomputable instance (h w : Int) (l : List Int) (tx ty : Bool) (s : Int) : Decidable (Keeps h w l tx ty s) := Classical.propDecidable _
open Classical in
theorem keeps_spec {h w : Int} {l : List Int} (v : FV h w l) {tx ty : Bool} {s : Int} (s0 : -1000 ≤ s) (s1 : s ≤ 1000) : yB.fv h w l tx ty s = some (decide (Keeps h w l tx ty s)) := by
  have a := v.w24
  have b := v.h6
  have c := v.h1
  have d := v.w1
  rw [yB.fv_eq]
  have inner : ∀ y, 0 ≤ y → y < h → yB.l0v y h w l tx ty s = if (∀ x, 0 ≤ x → x < w → col w l (imgX tx s x) (imgY h ty y) = col w l x y) then yB.l0v (y + 1) h w l tx ty s else some false := by
    intro y y0 y1
    rw [yB.l0v_eq, if_pos y1]
    refine all_loop (fun x => yB.l1v y x h w l tx ty s) (fun x => col w l (imgX tx s x) (imgY h ty y) = col w l x y) w _ ?_ ?_ w.toNat 0 (by omega) (by omega)
    · show yB.l1v y w h w l tx ty s = _
      rw [yB.l1v_eq, if_neg (by omega), w64 (by omega) (by omega)]
    · intro x x0 x1
      show yB.l1v y x h w l tx ty s = _
      have yi := imgY_in (ty := ty) y0 y1
      rw [yB.l1v_eq, if_pos x1, image_spec v s0 s1 x0 x1 y0 y1, Option.bind_some, at_spec v yi.1 yi.2, Option.bind_some, at_spec v y0 y1, Option.bind_some, w64 (by omega) (by omega)]
      by_cases q : col w l (imgX tx s x) (imgY h ty y) = col w l x y
      · rw [if_pos q, if_pos q]
      · rw [if_neg q, if_neg q]
  have outer := all_loop (fun y => yB.l0v y h w l tx ty s) (fun y => ∀ x, 0 ≤ x → x < w → col w l (imgX tx s x) (imgY h ty y) = col w l x y) h (some true) (by show yB.l0v h h w l tx ty s = _; rw [yB.l0v_eq, if_neg (by omega)]) inner h.toNat 0 (by omega) (by omega)
  rw [outer]
  by_cases k : Keeps h w l tx ty s
  · rw [decide_eq_true k]; exact if_pos k
  · rw [decide_eq_false k]; exact if_neg k
open Classical in
theorem keeps_impl {h w : Int} {l : List Int} (v : FV h w l) {tx ty : Bool} {s : Int} (s0 : -1000 ≤ s) (s1 : s ≤ 1000) : zZ.fv h w l tx ty s = some (decide (Keeps h w l tx ty s)) := by
  have a := v.w24
  have b := v.h6
  have c := v.h1
  have d := v.w1
  rw [zZ.fv_eq]
  have inner : ∀ y, 0 ≤ y → y < h → zZ.l0v h y h w l tx ty s = if (∀ x, 0 ≤ x → x < w → col w l (imgX tx s x) (imgY h ty y) = col w l x y) then zZ.l0v h (y + 1) h w l tx ty s else some false := by
    intro y y0 y1
    rw [zZ.l0v_eq, if_pos y1]
    refine all_loop (fun x => zZ.l1v y h y w x h w l tx ty s) (fun x => col w l (imgX tx s x) (imgY h ty y) = col w l x y) w _ ?_ ?_ w.toNat 0 (by omega) (by omega)
    · show zZ.l1v y h y w w h w l tx ty s = _
      rw [zZ.l1v_eq, if_neg (by omega), w64 (by omega) (by omega)]
    · intro x x0 x1
      show zZ.l1v y h y w x h w l tx ty s = _
      have yi := imgY_in (ty := ty) y0 y1
      rw [zZ.l1v_eq, if_pos x1, take_impl v s0 s1 x0 x1 y0 y1, Option.bind_some, at_impl v yi.1 yi.2, Option.bind_some, at_impl v y0 y1, Option.bind_some, w64 (by omega) (by omega), col_mod]
      by_cases q : col w l (imgX tx s x) (imgY h ty y) = col w l x y
      · rw [if_pos q, if_pos q]
      · rw [if_neg q, if_neg q]
  have outer := all_loop (fun y => zZ.l0v h y h w l tx ty s) (fun y => ∀ x, 0 ≤ x → x < w → col w l (imgX tx s x) (imgY h ty y) = col w l x y) h (some true) (by show zZ.l0v h h h w l tx ty s = _; rw [zZ.l0v_eq, if_neg (by omega)]) inner h.toNat 0 (by omega) (by omega)
  rw [outer]
  by_cases k : Keeps h w l tx ty s
  · rw [decide_eq_true k]; exact if_pos k
  · rw [decide_eq_false k]; exact if_neg k
theorem keeps_whole (h w : Int) (l : List Int) : Keeps h w l false false w := by
  intro y y0 y1 x x0 x1
  unfold col imgX imgY
  simp
/-- The period. -/
structure IsPeriod (h w : Int) (l : List Int) (p : Int) : Prop where
  p1 : 1 ≤ p
  pw : p ≤ w
  keeps : Keeps h w l false false p
  least : ∀ q, 1 ≤ q → q < p → ¬ Keeps h w l false false q
theorem period_both {h w : Int} {l : List Int} (v : FV h w l) : ∃ p, IsPeriod h w l p ∧ yE.fv h w l = some p ∧ yC.fv h w l = some p := by
  have a := v.w24
  rw [yE.fv_eq, yC.fv_eq]
  have go : ∀ (d : Nat) (n : Int), 1 ≤ n → n + d = w → (∀ q, 1 ≤ q → q < n → ¬ Keeps h w l false false q) → ∃ p, IsPeriod h w l p ∧ yE.l0v n h w l = some p ∧ yC.l0v n h w l = some p := by
    intro d
    induction d with
    | zero =>
      intro n n1 hn hq
      obtain rfl : n = w := by omega
      have hk := keeps_whole h n l
      refine ⟨n, ⟨n1, by omega, hk, hq⟩, ?_, ?_⟩
      · rw [yE.l0v_eq, keeps_spec v (by omega) (by omega), Option.bind_some, if_pos (by simpa using hk)]
      · rw [yC.l0v_eq, keeps_impl v (by omega) (by omega), Option.bind_some, if_pos (by simpa using hk)]
    | succ d ih =>
      intro n n1 hn hq
      by_cases hk : Keeps h w l false false n
      · refine ⟨n, ⟨n1, by omega, hk, hq⟩, ?_, ?_⟩
        · rw [yE.l0v_eq, keeps_spec v (by omega) (by omega), Option.bind_some, if_pos (by simpa using hk)]
        · rw [yC.l0v_eq, keeps_impl v (by omega) (by omega), Option.bind_some, if_pos (by simpa using hk)]
      · obtain ⟨p, h1, h2, h3⟩ := ih (n + 1) (by omega) (by omega) (fun q q1 q2 => by
          by_cases e : q = n
          · rw [e]; exact hk
          · exact hq q q1 (by omega))
        refine ⟨p, h1, ?_, ?_⟩
        · rw [yE.l0v_eq, keeps_spec v (by omega) (by omega), Option.bind_some, if_neg (by simpa using hk), w64 (by omega) (by omega)]; exact h2
        · rw [yC.l0v_eq, keeps_impl v (by omega) (by omega), Option.bind_some, if_neg (by simpa using hk), w64 (by omega) (by omega)]; exact h3
  exact go (w - 1).toNat 1 (by omega) (by have := v.w1; omega) (fun q h1 h2 => by omega)
theorem szFrieze_v (h w : Int) (l : List Int) (hl : l.length ≤ maxLen) : yX.f h w l 1048576 = some (if (l.length : Int) ≤ 1048576 then 1048576 - (l.length : Int) else -1) := by
  unfold yX.f
  rw [szInts l 1048576 (by omega) (by omega) hl, Option.bind_some]
  by_cases hs : (l.length : Int) ≤ 1048576
  · rw [if_pos hs, if_neg (by omega)]
  · rw [if_neg hs, if_pos (by omega)]
theorem toFrieze_v (h w : Int) (l : List Int) (hl : l.length ≤ 35184372088832) : yK.fv h w l = some (h, w, l) := by
  rw [yK.fv_eq, toInts l hl]; rfl
theorem eqFrieze_v (h w : Int) (l : List Int) (hl : l.length ≤ 4611686018427387904) : yL.fv h w l h w l = some true := by
  rw [yL.fv_eq, if_pos rfl, if_pos rfl, eqInts l l hl]; simp
theorem markFrieze_v (h w : Int) (l : List Int) (hl : l.length ≤ 1048576) : yO.fv h w l 1 = some (1 + (l.length : Int), marks 1 l.length) := by
  rw [yO.fv_eq, markInts l 1 (by omega) (by omega)]; rfl
theorem heldFrieze_v (h w : Int) (n : Nat) (hn : n ≤ 1048576) : yN.fv h w (marks 1 n) 1 = some (1 + (n : Int)) := by
  rw [yN.fv_eq, heldInts 1 n (by omega) (by omega), Option.bind_some, if_neg (by omega)]
end Go.Proofs.Ytjjockhekaccnaa.Q
namespace Go.Proofs.Ytjjockhekaccnaa.Q
open Go.RowKit Go.Proofs.Ytjjockhekaccnaa.X Go.Proofs.YtjjockhekaccnaaW.PrintWords Go.Proofs.YtjjockhekaccnaaW.PrintMore
set_option linter.unusedSimpArgs false
set_option linter.unusedVariables false
theorem symm_go {h w : Int} {l : List Int} (v : FV h w l) (p : Int) (p0 : 1 ≤ p) (pw : p ≤ w) (hp : yC.fv h w l = some p) :
    ∀ (d : Nat) (t s : Int) (acc : List S36), 0 ≤ t → t < 4 → 0 ≤ s → s < p → t * p + s + d = 4 * p → acc.length + d ≤ 1000 →
      ∃ r : List S36, r.length ≤ acc.length + d ∧ yA.l0v p acc (t * p + s) h w l = some r ∧ zY.l1v acc t t p s h w l = some r := by
  have q1 := v.w24
  intro d
  induction d with
  | zero =>
    intro t s acc t0 t4 s0 sp hd ha
    have := Int.mul_le_mul_of_nonneg_right (show t ≤ 3 by omega) (show 0 ≤ p by omega)
    omega
  | succ d ih =>
    intro t s acc t0 t4 s0 sp hd ha
    have b := Int.mul_le_mul_of_nonneg_right (show t ≤ 3 by omega) (show 0 ≤ p by omega)
    have c := Int.mul_nonneg t0 (show 0 ≤ p by omega)
    have e1 : Int.tdiv (t * p + s) p = t := by
      rw [Int.tdiv_eq_ediv_of_nonneg (by omega), Int.add_comm, Int.add_mul_ediv_right _ _ (by omega), Int.ediv_eq_zero_of_lt s0 sp]; omega
    have e2 : Int.tmod (t * p + s) p = s := by
      rw [Int.tmod_eq_emod_of_nonneg (by omega), Int.add_comm, Int.add_mul_emod_self_right, Int.emod_eq_of_lt s0 sp]
    rw [yA.l0v_eq, w64 (x := 4 * p) (by omega) (by omega), if_pos (by omega), if_neg (by omega), e1, e2, w64 (x := t) (by omega) (by omega), keeps_spec v (by omega) (by omega), Option.bind_some]
    rw [zY.l1v_eq, if_pos sp, keeps_impl v (by omega) (by omega), Option.bind_some, w64 (x := t * p + s + 1) (by omega) (by omega), w64 (x := s + 1) (by omega) (by omega)]
    have next : ∀ acc' : List S36, acc'.length ≤ acc.length + 1 → ∃ r : List S36, r.length ≤ acc'.length + d ∧ yA.l0v p acc' (t * p + s + 1) h w l = some r ∧ zY.l1v acc' t t p (s + 1) h w l = some r := by
      intro acc' hl'
      by_cases hs : s + 1 < p
      · have := ih t (s + 1) acc' t0 t4 (by omega) hs (by omega) (by omega)
        rw [show t * p + (s + 1) = t * p + s + 1 by omega] at this
        exact this
      · obtain rfl : s = p - 1 := by omega
        rw [show p - 1 + 1 = p by omega, zY.l1v_eq, if_neg (by omega), zY.l0v_eq, w64 (x := t + 1) (by omega) (by omega)]
        have e3 : t * p + (p - 1) + 1 = (t + 1) * p := by rw [Int.add_mul]; omega
        rw [e3]
        by_cases ht : t + 1 < 4
        · rw [if_pos ht, hp, Option.bind_some]
          have := ih (t + 1) 0 acc' (by omega) ht (by omega) (by omega) (by omega) (by omega)
          rw [show (t + 1) * p + 0 = (t + 1) * p by omega] at this
          exact this
        · obtain rfl : t = 3 := by omega
          rw [if_neg (by omega), yA.l0v_eq, w64 (x := 4 * p) (by omega) (by omega), if_neg (by omega)]
          exact ⟨acc', by omega, rfl, rfl⟩
    by_cases k : Keeps h w l (decide (t ≥ 2)) (Int.tmod t 2 == 1) s
    · have hk := decide_eq_true k
      simp only [hk, if_true]
      rw [if_pos (by omega), if_pos (by omega)]
      obtain ⟨r, r1, r2, r3⟩ := next (acc ++ [⟨decide (t ≥ 2), Int.tmod t 2 == 1, s⟩]) (by simp)
      exact ⟨r, by rw [List.length_append, List.length_singleton] at r1; omega, r2, r3⟩
    · have hk := decide_eq_false k
      simp only [hk, if_false, Bool.false_eq_true]
      obtain ⟨r, r1, r2, r3⟩ := next acc (by omega)
      exact ⟨r, by omega, r2, r3⟩
theorem symm_both {h w : Int} {l : List Int} (v : FV h w l) : ∃ r : List S36, r.length ≤ 96 ∧ yA.fv h w l = some r ∧ zY.fv h w l = some r := by
  have q1 := v.w24
  obtain ⟨p, hp, h1, h2⟩ := period_both v
  have p1 := hp.p1
  have p2 := hp.pw
  obtain ⟨r, r1, r2, r3⟩ := symm_go v p hp.p1 hp.pw h2 (4 * p).toNat 0 0 [] (by omega) (by omega) (by omega) (by omega) (by omega) (by simp; omega)
  refine ⟨r, by simp at r1; omega, ?_, ?_⟩
  · rw [yA.fv_eq, h1, Option.bind_some]
    simpa using r2
  · rw [zY.fv_eq, zY.l0v_eq, if_pos (by omega), h2, Option.bind_some]
    exact r3
end Go.Proofs.Ytjjockhekaccnaa.Q
namespace Go.Proofs.Ytjjockhekaccnaa.Pure
open Go.RowKit Go.Proofs.Ytjjockhekaccnaa.X Go.Proofs.Ytjjockhekaccnaa.Q Go.Proofs.YtjjockhekaccnaaW.PrintWords
set_option linter.unusedSimpArgs false
set_option linter.unusedVariables false
theorem same (r : List S36) (hr : r.length ≤ 1048576) : ∀ (d i : Nat), i + d = r.length → ∀ h g v q : Bool, zX.l0v r h g v q (i : Int) = zW.l0v h g v q r (r.length : Int) (i : Int) := by
  intro d
  induction d with
  | zero =>
    intro i hi h g v q
    have c1 : ((i : Int) < (r.length : Int)) = False := eq_false (by omega)
    rw [zX.l0v_eq, zW.l0v_eq]
    simp only [c1, if_false, zX.j1v_eq, zX.j2v_eq, zW.j1v_eq, zW.j2v_eq]
  | succ d ih =>
    intro i hi h g v q
    have c1 : ((i : Int) < (r.length : Int)) = True := eq_true (by omega)
    have c0 : (0 ≤ (i : Int)) = True := eq_true (by omega)
    have w1 : wrap64 ((i : Int) + 1) = ((i + 1 : Nat) : Int) := by rw [w64 (by omega) (by omega)]; omega
    have e := ih (i + 1) (by omega)
    rw [zX.l0v_eq, zW.l0v_eq]
    simp only [c1, c0, if_true, w1, e]
def Told {α : Type} (o : Option α) : Prop := ∃ p, o = some p
theorem Told.ite {α : Type} {c : Prop} [Decidable c] {a b : Option α} (ha : Told a) (hb : Told b) : Told (if c then a else b) := by
  split
  · exact ha
  · exact hb
theorem told (r : List S36) (hr : r.length ≤ 1048576) : ∀ (d i : Nat), i + d = r.length → ∀ h g v q : Bool, Told (zW.l0v h g v q r (r.length : Int) (i : Int)) := by
  intro d
  induction d with
  | zero =>
    intro i hi h g v q
    have c1 : ((i : Int) < (r.length : Int)) = False := eq_false (by omega)
    rw [zW.l0v_eq]
    simp only [c1, if_false, zW.j1v_eq, zW.j2v_eq]
    repeat' (first | exact ⟨_, rfl⟩ | refine Told.ite ?_ ?_)
  | succ d ih =>
    intro i hi h g v q
    have c1 : ((i : Int) < (r.length : Int)) = True := eq_true (by omega)
    have c0 : (0 ≤ (i : Int)) = True := eq_true (by omega)
    have w1 : wrap64 ((i : Int) + 1) = ((i + 1 : Nat) : Int) := by rw [w64 (by omega) (by omega)]; omega
    have e := ih (i + 1) (by omega)
    rw [zW.l0v_eq]
    simp only [c1, c0, if_true, w1]
    repeat' (first | exact e _ _ _ _ | refine Told.ite ?_ ?_)
theorem name_both (h w : Int) (l : List Int) (hl : l.length ≤ 1048576) : ∃ (s : ByteArray) (e : Int), zX.fv h w l = some (s, e) ∧ zW.fv h w l = some (s, e) := by
  rw [zX.fv_eq, zW.fv_eq, isFrieze_spec h w l (by omega), isFrieze_impl h w l]
  by_cases v : FV h w l
  · have hv := decide_eq_true v
    obtain ⟨r, hr, h1, h2⟩ := symm_both v
    obtain ⟨⟨s, e⟩, t⟩ := told r (by omega) r.length 0 (by omega) false false false false
    have q := same r (by omega) r.length 0 (by omega) false false false false
    refine ⟨s, e, ?_, ?_⟩
    · simp only [hv, Option.bind_some, if_true, h1]
      exact q.trans t
    · simp only [hv, Option.bind_some, if_true, h2]
      exact t
  · have hv := decide_eq_false v
    refine ⟨⟨#[]⟩, 1, ?_, ?_⟩
    · simp only [hv, Option.bind_some, Bool.false_eq_true, if_false]
    · simp only [hv, Option.bind_some, Bool.false_eq_true, if_false]
theorem FnExactFriezeName : yJ.Pure := by
  intro h w l ⟨wh, ww, hl, wl⟩
  apply lim_some (yJ.f_mono h w l)
  show yJ.fv h w l = some true
  rw [yJ.fv_eq, szFrieze_v h w l hl, Option.bind_some]
  by_cases hs : (l.length : Int) ≤ 1048576
  · rw [if_pos hs, if_neg (by omega)]
    have ht := toFrieze_v h w l (by omega)
    obtain ⟨s, e, h1, h2⟩ := name_both h w l (by omega)
    have e1 := eqFrieze_v h w l (by omega)
    simp only [ht, h1, h2, Option.bind_some, if_true, e1]
  · rw [if_neg hs, if_pos (by omega)]
end Go.Proofs.Ytjjockhekaccnaa.Pure
