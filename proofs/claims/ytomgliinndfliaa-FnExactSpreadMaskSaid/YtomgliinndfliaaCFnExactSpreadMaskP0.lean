/- Part of the proof of the law FnExactSpreadMask: the plain statement. No condition of its own. -/
import Derived.Test.YtomgliinndfliaaCFnExactSpreadMaskE0
namespace Go.Proofs.Ytomgliinndfliaa.X
open Go.RowKit Go.Proofs.YtomgliinndfliaaW.PrintWords Go.Proofs.YtomgliinndfliaaW.PrintLast Go.Proofs.YtomgliinndfliaaW.PrintMore
def laws_FnExactSpreadMask.Pure : Prop := ∀ (a0_0 : Int) (a0_1 : Int) (a0_2 : Int) (a0_3 : Int) (l0_4 : List Int), ((Lit.int .i64 a0_0).wf = true ∧ ((Lit.int .i64 a0_1).wf = true ∧ (Lit.int .i64 a0_2).wf = true ∧ (Lit.int .i64 a0_3).wf = true) ∧ (l0_4.length ≤ maxLen ∧ ∀ x_ ∈ l0_4, (Lit.int .i64 x_).wf = true)) → ∃ k, laws_FnExactSpreadMask.f k a0_0 a0_1 a0_2 a0_3 l0_4 = some true
end Go.Proofs.Ytomgliinndfliaa.X
namespace Go.Proofs.Ytomgliinndfliaa.Q
open Go.RowKit Go.Proofs.Ytomgliinndfliaa.X Go.Proofs.YtomgliinndfliaaW.PrintWords Go.Proofs.YtomgliinndfliaaW.PrintMore

theorem w64 {x : Int} (h : -9223372036854775808 ≤ x) (h' : x ≤ 9223372036854775807) : wrap64 x = x := by unfold wrap64; omega
theorem maxLen_eq : maxLen = 9223372036854775807 := rfl
theorem rd_eq {l : List Int} {i : Int} (h : 0 ≤ i) (h' : i < l.length) : rd l i = l[i.toNat]'(by omega) := by
  unfold rd
  rw [List.getD_eq_getElem?_getD, List.getElem?_eq_getElem (by omega)]
  rfl
theorem rd_nat {l : List Int} {i : Nat} (h : i < l.length) : rd l (i : Int) = l[i] := by
  rw [rd_eq (by omega) (by omega)]
  simp
theorem rd_nat' (l : List Int) (i : Nat) : rd l (i : Int) = l.getD i 0 := by
  unfold rd
  rw [Int.toNat_natCast]
theorem tmod_small {a n : Int} (h : 0 ≤ a) (h' : a < n) : Int.tmod a n = a := Int.tmod_eq_of_lt h h'
theorem tmod_emod {a n : Int} (hn : 0 < n) : Int.tmod a n = if 0 ≤ a ∨ n ∣ a then a % n else a % n - n := by
  rw [Int.tmod_eq_emod]
  by_cases h : 0 ≤ a ∨ n ∣ a
  · rw [if_pos h, if_pos h]; omega
  · rw [if_neg h, if_neg h]; omega
/-- The remainder that is at least 0, as both programs reckon it. -/
theorem mod_spec {a n : Int} (hn : 0 < n) (hn' : n ≤ 4611686018427387904) : spec_l01Mod.f a n = some (a % n) := by
  unfold spec_l01Mod.f
  rw [if_neg (by omega)]
  have h0 := Int.emod_nonneg a (show n ≠ 0 by omega)
  have h1 := Int.emod_lt_of_pos a hn
  by_cases h : 0 ≤ a ∨ n ∣ a
  · rw [tmod_emod hn, if_pos h, if_neg (by omega)]
  · rw [tmod_emod hn, if_neg h, if_pos (by omega), w64 (by omega) (by omega)]
    congr 1
    omega
theorem mod_impl {a n : Int} (hn : 0 < n) (hn' : n ≤ 4611686018427387904) : impl_mod.f a n = some (a % n) := by
  unfold impl_mod.f
  rw [if_neg (by omega)]
  have h0 := Int.emod_nonneg a (show n ≠ 0 by omega)
  have h1 := Int.emod_lt_of_pos a hn
  by_cases h : 0 ≤ a ∨ n ∣ a
  · rw [tmod_emod hn (a := a), if_pos h, w64 (by omega) (by omega), tmod_emod hn, if_pos (by omega), Int.add_emod_right, Int.emod_emod_of_dvd _ (Int.dvd_refl n)]
  · rw [tmod_emod hn (a := a), if_neg h, w64 (by omega) (by omega), tmod_emod hn, if_pos (by omega)]
    congr 1
    rw [show a % n - n + n = a % n by omega, Int.emod_emod_of_dvd _ (Int.dvd_refl n)]
theorem rd_replicate (n : Nat) (i : Int) : rd (List.replicate n 0) i = 0 := by
  unfold rd
  rw [List.getD_eq_getElem?_getD, List.getElem?_replicate]
  split <;> rfl
/-! ### loops that carry a state -/
def iter {σ : Type} (step : Int → σ → σ) : Nat → Int → σ → σ
  | 0, _, s => s
  | d + 1, i, s => iter step d (i + 1) (step i s)
/-- A loop from i to n that turns its state at each round and ends with fin. -/
theorem fold_loop {σ ρ : Type} (F : Int → σ → ρ) (step : Int → σ → σ) (Inv : σ → Prop) (n : Int) (fin : σ → ρ) (hn : ∀ s, Inv s → F n s = fin s) (hs : ∀ i s, 0 ≤ i → i < n → Inv s → F i s = F (i + 1) (step i s) ∧ Inv (step i s)) :
    ∀ (d : Nat) (i : Int) (s : σ), 0 ≤ i → i + d = n → Inv s → F i s = fin (iter step d i s) ∧ Inv (iter step d i s) := by
  intro d
  induction d with
  | zero =>
    intro i s h0 hi hv
    obtain rfl : i = n := by omega
    exact ⟨hn s hv, hv⟩
  | succ d ih =>
    intro i s h0 hi hv
    obtain ⟨h1, h2⟩ := hs i s h0 (by omega) hv
    rw [h1]
    exact ih (i + 1) _ (by omega) (by omega) h2

theorem toInts_loop (l : List Int) (hn : l.length ≤ 35184372088832) : ∀ (d i : Nat) (x3 : List Int), i + d = l.length → x3.length = l.length → (∀ j, j < i → x3[j]? = l[j]?) → laws_toInt64S.l0v l x3 (i : Int) = some l := by
  intro d
  induction d with
  | zero =>
    intro i x3 hi hx hj
    rw [laws_toInt64S.l0v_eq, if_neg (by omega)]
    congr 1
    apply List.ext_getElem?
    intro j
    by_cases h : j < l.length
    · exact hj j (by omega)
    · rw [List.getElem?_eq_none (by omega), List.getElem?_eq_none (by omega)]
  | succ d ih =>
    intro i x3 hi hx hj
    rw [laws_toInt64S.l0v_eq, if_pos (by omega), if_pos (by omega), if_pos (by omega), w64 (by omega) (by omega)]
    refine ih (i + 1) _ (by omega) (by simpa using hx) (fun j h => ?_)
    rw [Int.toNat_natCast, rd_nat (by omega)]
    by_cases e : j = i
    · subst e
      rw [List.getElem?_set_self (by omega), List.getElem?_eq_getElem (by omega)]
    · rw [List.getElem?_set_ne (by omega)]
      exact hj j (by omega)
theorem toInts (l : List Int) (hn : l.length ≤ 35184372088832) : laws_toInt64S.fv l = some l := by
  rw [laws_toInt64S.fv_eq, if_pos (by omega), if_pos (by omega)]
  exact toInts_loop l hn l.length 0 _ (by omega) (by simp) (fun j h => absurd h (Nat.not_lt_zero _))
theorem szInts (l : List Int) (n : Int) (h0 : 0 ≤ n) (h1 : n ≤ 1048576) (hl : l.length ≤ maxLen) : laws_szInt64S.f l n = some (if (l.length : Int) ≤ n then n - l.length else -1) := by
  rw [maxLen_eq] at hl
  unfold laws_szInt64S.f
  rw [w64 (by omega) (by omega)]
  by_cases h : (l.length : Int) ≤ n
  · rw [if_neg (by omega), if_pos h]
  · rw [if_pos (by omega), if_neg h]
theorem eqInts_loop (a b : List Int) (hn : a.length ≤ 4611686018427387904) (hab : a.length = b.length) : ∀ (d i : Nat), i + d = a.length → (∀ j, j < i → a[j]? = b[j]?) → laws_eqInt64S.l0v a b (i : Int) = some (decide (a = b)) := by
  intro d
  induction d with
  | zero =>
    intro i hi hj
    rw [laws_eqInt64S.l0v_eq, if_neg (by omega)]
    have : a = b := by
      apply List.ext_getElem?
      intro j
      by_cases h : j < a.length
      · exact hj j (by omega)
      · rw [List.getElem?_eq_none (by omega), List.getElem?_eq_none (by omega)]
    simp [this]
  | succ d ih =>
    intro i hi hj
    rw [laws_eqInt64S.l0v_eq, if_pos (by omega), if_pos (by omega), if_pos (by omega), rd_nat (by omega), rd_nat (by omega)]
    by_cases e : a[i]'(by omega) = b[i]'(by omega)
    · rw [if_pos e, w64 (by omega) (by omega)]
      refine ih (i + 1) (by omega) (fun j h => ?_)
      by_cases e' : j = i
      · subst e'
        rw [List.getElem?_eq_getElem (by omega), List.getElem?_eq_getElem (by omega), e]
      · exact hj j (by omega)
    · rw [if_neg e]
      have : a ≠ b := by
        rintro rfl
        exact e rfl
      simp [this]
theorem eqInts (a b : List Int) (hn : a.length ≤ 4611686018427387904) : laws_eqInt64S.fv a b = some (decide (a = b)) := by
  rw [laws_eqInt64S.fv_eq]
  by_cases h : a.length = b.length
  · rw [if_pos (by omega)]
    exact eqInts_loop a b hn h a.length 0 (by omega) (fun j h => absurd h (Nat.not_lt_zero _))
  · rw [if_neg (by omega)]
    have : a ≠ b := by
      rintro rfl
      exact h rfl
    simp [this]
/-- What marking leaves: the numbers from k on. -/
def marks (k : Int) (n : Nat) : List Int := (List.range n).map fun j : Nat => k + (j : Int)
theorem marks_length (k : Int) (n : Nat) : (marks k n).length = n := by simp [marks]
theorem marks_get (k : Int) (n j : Nat) (h : j < n) : (marks k n)[j]? = some (k + j) := by simp [marks, h]
theorem markInts_loop (k : Int) (n : Nat) (hk : 0 ≤ k) (hn : k + n ≤ 4611686018427387904) : ∀ (d i : Nat) (x0 : List Int), i + d = n → x0.length = n → (∀ j, j < i → x0[j]? = some (k + j)) → laws_markInt64S.l0v x0 (k + i) (i : Int) = some (k + n, marks k n) := by
  intro d
  induction d with
  | zero =>
    intro i x0 hi hx hj
    rw [laws_markInt64S.l0v_eq, if_neg (by omega)]
    obtain rfl : i = n := by omega
    congr 2
    apply List.ext_getElem?
    intro j
    by_cases h : j < i
    · rw [hj j h, marks_get _ _ _ h]
    · rw [List.getElem?_eq_none (by omega), List.getElem?_eq_none (by rw [marks_length]; omega)]
  | succ d ih =>
    intro i x0 hi hx hj
    rw [laws_markInt64S.l0v_eq, if_pos (by omega), if_pos (by omega), w64 (by omega) (by omega), w64 (by omega) (by omega), Int.toNat_natCast]
    have := ih (i + 1) (x0.set i (k + i)) (by omega) (by simpa using hx) (fun j h => by
      by_cases e : j = i
      · subst e
        rw [List.getElem?_set_self (by omega)]
      · rw [List.getElem?_set_ne (by omega)]
        exact hj j (by omega))
    rw [show k + (i : Int) + 1 = k + ((i + 1 : Nat) : Int) by omega]
    exact this
theorem markInts (l : List Int) (k : Int) (hk : 0 ≤ k) (hn : k + l.length ≤ 4611686018427387904) : laws_markInt64S.fv l k = some (k + l.length, marks k l.length) := by
  rw [laws_markInt64S.fv_eq]
  have := markInts_loop k l.length hk hn l.length 0 l (by omega) rfl (fun j h => absurd h (Nat.not_lt_zero _))
  simpa using this
theorem heldInts_loop (k : Int) (n : Nat) (hk : 0 ≤ k) (hn : k + n ≤ 4611686018427387904) : ∀ (d i : Nat), i + d = n → laws_heldInt64S.l0v (marks k n) (k + i) (i : Int) = some (k + n) := by
  intro d
  induction d with
  | zero =>
    intro i hi
    rw [laws_heldInt64S.l0v_eq, if_neg (by rw [marks_length]; omega)]
    obtain rfl : i = n := by omega
    rfl
  | succ d ih =>
    intro i hi
    have e : rd (marks k n) (i : Int) = k + i := by
      rw [rd_nat', List.getD_eq_getElem?_getD, marks_get _ _ _ (by omega)]; rfl
    rw [laws_heldInt64S.l0v_eq, if_pos (by rw [marks_length]; omega), if_pos (by omega), if_pos e, w64 (by omega) (by omega), w64 (by omega) (by omega)]
    have := ih (i + 1) (by omega)
    rw [show k + (i : Int) + 1 = k + ((i + 1 : Nat) : Int) by omega]
    exact this
theorem heldInts (k : Int) (n : Nat) (hk : 0 ≤ k) (hn : k + n ≤ 4611686018427387904) : laws_heldInt64S.fv (marks k n) k = some (k + n) := by
  rw [laws_heldInt64S.fv_eq]
  have := heldInts_loop k n hk hn n 0 (by omega)
  simpa using this

open Classical in
/-- A loop that asks something of each i and ends with r. -/
theorem all_loop (F : Int → Option Bool) (P : Int → Prop) (n : Int) (r : Option Bool) (hn : F n = r) (hs : ∀ i, 0 ≤ i → i < n → F i = if P i then F (i + 1) else some false) :
    ∀ (d : Nat) (i : Int), 0 ≤ i → i + d = n → F i = if (∀ j, i ≤ j → j < n → P j) then r else some false := by
  intro d
  induction d with
  | zero =>
    intro i h0 hi
    rw [if_pos (fun j h1 h2 => by omega), ← hn]
    congr 1; omega
  | succ d ih =>
    intro i h0 hi
    rw [hs i h0 (by omega)]
    by_cases hp : P i
    · rw [if_pos hp, ih (i + 1) (by omega) (by omega)]
      by_cases hq : ∀ j, i + 1 ≤ j → j < n → P j
      · rw [if_pos hq, if_pos (fun j h1 h2 => by
          by_cases e : j = i
          · rw [e]; exact hp
          · exact hq j (by omega) h2)]
      · rw [if_neg hq, if_neg (fun h => hq fun j h1 h2 => h j (by omega) h2)]
    · rw [if_neg hp, if_neg (fun h => hp (h i (by omega) (by omega)))]

open Classical in
theorem within_spec (l : List Int) (lo hi most : Int) (hl : l.length ≤ 9223372036854775807) : spec_l01Within.fv l most lo hi = some (decide ((∀ x ∈ l, lo ≤ x ∧ x ≤ hi) ∧ (l.length : Int) ≤ most)) := by
  rw [spec_l01Within.fv_eq]
  have := all_loop (fun i => spec_l01Within.l0v l most lo hi i) (fun i => lo ≤ rd l i ∧ rd l i ≤ hi) l.length (some (decide ((l.length : Int) ≤ most)))
    (by show spec_l01Within.l0v l most lo hi _ = _; rw [spec_l01Within.l0v_eq, if_neg (by omega)])
    (fun i h0 h1 => by
      show spec_l01Within.l0v l most lo hi _ = _
      rw [spec_l01Within.l0v_eq, if_pos h1, if_pos h0]
      unfold spec_l01In.f
      rw [w64 (by omega) (by omega)]
      by_cases a : lo ≤ rd l i
      · rw [if_pos a, Option.bind_some]
        by_cases b : rd l i ≤ hi
        · rw [if_pos (by simpa using b), if_pos ⟨a, b⟩]
        · rw [if_neg (by simpa using b), if_neg (fun h => b h.2)]
      · rw [if_neg a, Option.bind_some, if_neg (by simp), if_neg (fun h => a h.1)]) l.length 0 (by omega) (by omega)
  rw [this]
  have e : (∀ j : Int, 0 ≤ j → j < l.length → lo ≤ rd l j ∧ rd l j ≤ hi) ↔ ∀ x ∈ l, lo ≤ x ∧ x ≤ hi := by
    constructor
    · intro h x hx
      obtain ⟨j, hj, rfl⟩ := List.mem_iff_getElem.1 hx
      have := h j (by omega) (by omega)
      rwa [rd_nat hj] at this
    · intro h j h0 h1
      rw [rd_eq h0 h1]
      exact h _ (List.getElem_mem _)
  by_cases h : ∀ x ∈ l, lo ≤ x ∧ x ≤ hi
  · rw [if_pos (e.2 h)]
    congr 1
    exact decide_eq_decide.2 ⟨fun q => ⟨h, q⟩, fun q => q.2⟩
  · rw [if_neg (fun k => h (e.1 k))]
    congr 1
    simp only [h, false_and, decide_false]
end Go.Proofs.Ytomgliinndfliaa.Q
namespace Go.Proofs.Ytomgliinndfliaa.Q
open Go.RowKit Go.Proofs.Ytomgliinndfliaa.X Go.Proofs.YtomgliinndfliaaW.PrintWords Go.Proofs.YtomgliinndfliaaW.PrintMore
set_option linter.unusedSimpArgs false
set_option linter.unusedVariables false

def inB (lo hi x : Int) : Bool := decide (lo ≤ x) && decide (x ≤ hi)
theorem inB_iff {lo hi x : Int} : inB lo hi x = true ↔ lo ≤ x ∧ x ≤ hi := by simp [inB]
theorem in_spec (x lo hi : Int) : spec_l01In.f x lo hi = some (inB lo hi x) := by
  unfold spec_l01In.f inB
  by_cases h : x ≥ lo
  · simp [h]
  · simp [h]
theorem in_impl (x lo hi : Int) : impl_within.f x lo hi = some (inB lo hi x) := by
  unfold impl_within.f inB
  by_cases h : x ≥ lo
  · simp [h]
  · simp [h]
theorem ite_some (b c : Bool) : (if b = true then some c else some false) = some (b && c) := by cases b <;> rfl
theorem ite_some_of (b c : Bool) (x : Option Bool) (h : b = true → x = some c) : (if b = true then x else some false) = some (b && c) := by
  cases b with
  | true => simp [h rfl]
  | false => rfl
def frB (f : Int) : Bool := inB 0 1 f
def latB (a b c : Int) : Bool := inB 1 64 a && (inB 1 64 c && (inB 0 (a - 1) b && decide (a * c ≤ 64)))
theorem latB_iff {a b c : Int} : latB a b c = true ↔ (1 ≤ a ∧ a ≤ 64) ∧ (1 ≤ c ∧ c ≤ 64) ∧ (0 ≤ b ∧ b ≤ a - 1) ∧ a * c ≤ 64 := by
  simp only [latB, Bool.and_eq_true, inB_iff, decide_eq_true_iff]
theorem mul_in {a c : Int} (a1 : 1 ≤ a) (a2 : a ≤ 64) (c1 : 1 ≤ c) (c2 : c ≤ 64) : 1 ≤ a * c ∧ a * c ≤ 4096 := by
  have h1 := Int.mul_le_mul a1 c1 (by omega) (by omega)
  have h2 := Int.mul_le_mul a2 c2 (by omega) (by omega)
  omega
theorem lat_spec (a b c : Int) : spec_IsLattice.f a b c = some (latB a b c) := by
  unfold spec_IsLattice.f latB
  rw [in_spec, Option.bind_some]
  refine ite_some_of _ _ _ (fun h => ?_)
  rw [in_spec, Option.bind_some]
  refine ite_some_of _ _ _ (fun h' => ?_)
  rw [inB_iff] at h h'
  have := mul_in h.1 h.2 h'.1 h'.2
  rw [w64 (x := a - 1) (by omega) (by omega), in_spec, Option.bind_some, w64 (x := a * c) (by omega) (by omega)]
  exact ite_some _ _
theorem index_impl {a b c : Int} (h1 : -9223372036854775808 ≤ a * c) (h2 : a * c ≤ 9223372036854775807) : impl_Lattice_index.f a b c = some (a * c) := by
  unfold impl_Lattice_index.f
  rw [w64 h1 h2]
theorem lat_impl (a b c : Int) : impl_IsLattice.f a b c = some (latB a b c) := by
  unfold impl_IsLattice.f latB
  rw [in_impl, Option.bind_some]
  refine ite_some_of _ _ _ (fun h => ?_)
  rw [in_impl, Option.bind_some]
  refine ite_some_of _ _ _ (fun h' => ?_)
  rw [inB_iff] at h h'
  have := mul_in h.1 h.2 h'.1 h'.2
  rw [w64 (x := a - 1) (by omega) (by omega), in_impl, Option.bind_some, index_impl (by omega) (by omega), Option.bind_some]
  exact ite_some _ _
theorem fr_spec (f : Int) : spec_IsFrame.f f = some (frB f) := by
  unfold spec_IsFrame.f frB inB
  by_cases h : f = 0
  · subst h; rfl
  · rw [if_neg h]
    congr 1
    rw [Bool.eq_iff_iff]
    simp
    omega
theorem fr_impl (f : Int) : impl_IsFrame.f f = some (frB f) := by
  unfold impl_IsFrame.f frB
  rw [in_impl]; rfl
def patB (f a b c : Int) (l : List Int) : Bool := (frB f && latB a b c) && (decide ((l.length : Int) = a * c) && l.all (inB 0 9))
theorem all_impl (l : List Int) (lo hi : Int) : impl_allWithin.f l lo hi = some (l.all (inB lo hi)) := rfl
theorem code_spec (f a b c : Int) : spec_l04Code.f f a b c = some (if frB f && latB a b c then 0 else 1) := by
  unfold spec_l04Code.f
  rw [fr_spec, Option.bind_some]
  cases frB f with
  | false => rfl
  | true =>
    rw [if_pos rfl, lat_spec, Option.bind_some]
    cases latB a b c <;> rfl
theorem within_all (l : List Int) (lo hi most : Int) (hl : l.length ≤ 9223372036854775807) : spec_l01Within.fv l most lo hi = some (l.all (inB lo hi) && decide ((l.length : Int) ≤ most)) := by
  rw [within_spec l lo hi most hl]
  congr 1
  rw [Bool.eq_iff_iff]
  simp [inB]
theorem lat_prod {a b c : Int} (h : latB a b c = true) : 1 ≤ a * c ∧ a * c ≤ 64 := by
  rw [latB_iff] at h
  have := mul_in h.1.1 h.1.2 h.2.1.1 h.2.1.2
  omega
theorem pat_spec (f a b c : Int) (l : List Int) (hl : l.length ≤ 9223372036854775807) : spec_IsPattern.fv f a b c l = some (patB f a b c l) := by
  rw [spec_IsPattern.fv_eq, code_spec, Option.bind_some]
  unfold patB
  cases hb : frB f && latB a b c with
  | false => rfl
  | true =>
    rw [Bool.and_eq_true] at hb
    have hp := lat_prod hb.2
    simp only [if_true, Bool.true_and]
    rw [w64 (by omega) (by omega)]
    by_cases e : (l.length : Int) = a * c
    · rw [if_pos e, within_all l 0 9 64 hl, Option.bind_some]
      simp only [decide_eq_true e, Bool.true_and, show (l.length : Int) ≤ 64 by omega, decide_true, Bool.and_true]
    · rw [if_neg e]
      simp [e]
theorem pat_impl (f a b c : Int) (l : List Int) : impl_IsPattern.f f a b c l = some (patB f a b c l) := by
  unfold impl_IsPattern.f patB
  rw [fr_impl, Option.bind_some]
  cases frB f with
  | false => rfl
  | true =>
    rw [if_pos rfl, lat_impl, Option.bind_some]
    cases hb : latB a b c with
    | false => rfl
    | true =>
      have hp := lat_prod hb
      rw [if_pos rfl, index_impl (by omega) (by omega), Option.bind_some, all_impl]
      by_cases e : (l.length : Int) = a * c
      · rw [if_pos e]; simp [e]
      · rw [if_neg e]; simp [e]
structure PV (f a b c : Int) (l : List Int) : Prop where
  fr : frB f = true
  lat : latB a b c = true
  len : (l.length : Int) = a * c
  cols : ∀ x ∈ l, 0 ≤ x ∧ x ≤ 9
theorem pv_of {f a b c : Int} {l : List Int} (h : patB f a b c l = true) : PV f a b c l := by
  unfold patB at h
  simp only [Bool.and_eq_true, List.all_eq_true, inB_iff, decide_eq_true_iff] at h
  exact ⟨h.1.1, h.1.2, h.2.1, h.2.2⟩
theorem PV.l64 {f a b c : Int} {l : List Int} (v : PV f a b c l) : 1 ≤ l.length ∧ l.length ≤ 64 := by
  have := lat_prod v.lat
  have := v.len
  omega
/-! ### the laws' helpers on patterns -/
theorem szPattern_v (f a b c : Int) (l : List Int) (hl : l.length ≤ maxLen) : laws_szPattern.f f a b c l 1048576 = some (if (l.length : Int) ≤ 1048576 then 1048576 - (l.length : Int) else -1) := by
  unfold laws_szPattern.f
  rw [szInts l 1048576 (by omega) (by omega) hl, Option.bind_some]
  by_cases hs : (l.length : Int) ≤ 1048576
  · rw [if_pos hs, if_neg (by omega)]
  · rw [if_neg hs, if_pos (by omega)]
theorem toPattern_v (f a b c : Int) (l : List Int) (hl : l.length ≤ 35184372088832) : laws_toPattern.fv f a b c l = some (f, a, b, c, l) := by
  rw [laws_toPattern.fv_eq, toInts l hl]; rfl
theorem eqLattice_v (a b c : Int) : laws_eqLattice.f a b c a b c = some true := by unfold laws_eqLattice.f; simp
theorem eqPattern_v (f a b c : Int) (l : List Int) (hl : l.length ≤ 4611686018427387904) : laws_eqPattern.fv f a b c l f a b c l = some true := by
  rw [laws_eqPattern.fv_eq, if_pos rfl, eqLattice_v, Option.bind_some, if_pos rfl, eqInts l l hl]; simp
end Go.Proofs.Ytomgliinndfliaa.Q
namespace Go.Proofs.Ytomgliinndfliaa.Q
open Go.RowKit Go.Proofs.Ytomgliinndfliaa.X Go.Proofs.YtomgliinndfliaaW.PrintWords Go.Proofs.YtomgliinndfliaaW.PrintMore
theorem markPattern_v (f a b c : Int) (l : List Int) (hl : l.length ≤ 1048576) : laws_markPattern.fv f a b c l 1 = some (1 + (l.length : Int), marks 1 l.length) := by
  rw [laws_markPattern.fv_eq, markInts l 1 (by omega) (by omega)]; rfl
theorem heldPattern_v (f a b c : Int) (n : Nat) (hn : n ≤ 1048576) : laws_heldPattern.fv f a b c (marks 1 n) 1 = some (1 + (n : Int)) := by
  rw [laws_heldPattern.fv_eq, heldInts 1 n (by omega) (by omega), Option.bind_some, if_neg (by omega)]
end Go.Proofs.Ytomgliinndfliaa.Q
namespace Go.Proofs.Ytomgliinndfliaa.Q
open Go.RowKit Go.Proofs.Ytomgliinndfliaa.X Go.Proofs.YtomgliinndfliaaW.PrintWords Go.Proofs.YtomgliinndfliaaW.PrintMore
set_option linter.unusedSimpArgs false
set_option linter.unusedVariables false

structure LV (a b c : Int) : Prop where
  a1 : 1 ≤ a
  a64 : a ≤ 64
  c1 : 1 ≤ c
  c64 : c ≤ 64
  b0 : 0 ≤ b
  ba : b ≤ a - 1
  ac : a * c ≤ 64
theorem lv_of {a b c : Int} (h : latB a b c = true) : LV a b c := by
  rw [latB_iff] at h
  exact ⟨h.1.1, h.1.2, h.2.1.1, h.2.1.2, h.2.2.1.1, h.2.2.1.2, h.2.2.2⟩
/-- Cell number i. -/
def cellV (c i : Nat) : S38 := ⟨((i / c : Nat) : Int), ((i % c : Nat) : Int)⟩
def cellsL (c n : Nat) : List S38 := (List.range n).map (cellV c)
theorem cellsL_len (c n : Nat) : (cellsL c n).length = n := by simp [cellsL]
theorem cellsL_get (c n i : Nat) (h : i < n) : rd_T38 (cellsL c n) (i : Int) = cellV c i := by
  unfold rd_T38
  rw [Int.toNat_natCast, List.getD_eq_getElem?_getD]
  simp [cellsL, h]
theorem cellV_at (c x y : Nat) (hy : y < c) : cellV c (x * c + y) = ⟨(x : Int), (y : Int)⟩ := by
  unfold cellV
  rw [Nat.add_comm, Nat.add_mul_div_right _ _ (by omega), Nat.div_eq_of_lt hy, Nat.zero_add, Nat.add_mul_mod_self_right, Nat.mod_eq_of_lt hy]
theorem cellsL_succ (c n : Nat) : cellsL c (n + 1) = cellsL c n ++ [cellV c n] := by simp [cellsL, List.range_succ]
theorem cells_spec (a b c : Nat) (ha : a ≤ 64) (hc : 1 ≤ c) (hc' : c ≤ 64) : spec_l03Cells.fv (a : Int) (b : Int) (c : Int) = some (cellsL c (a * c)) := by
  rw [spec_l03Cells.fv_eq]
  have go : ∀ (d x y : Nat), y < c → x < a → x * c + y + d = a * c → spec_l03Cells.l1v (cellsL c (x * c + y)) (x : Int) (y : Int) (a : Int) (b : Int) (c : Int) = some (cellsL c (a * c)) := by
    intro d
    induction d with
    | zero =>
      intro x y hy hx hd
      have := Nat.mul_le_mul_right c (show x + 1 ≤ a by omega)
      rw [Nat.succ_mul] at this
      omega
    | succ d ih =>
      intro x y hy hx hd
      have h4 := Nat.mul_le_mul ha hc'
      rw [spec_l03Cells.l1v_eq, if_pos (by omega), if_pos (by rw [cellsL_len]; omega), w64 (by omega) (by omega)]
      have e : cellsL c (x * c + y) ++ [(⟨(x : Int), (y : Int)⟩ : S38)] = cellsL c (x * c + (y + 1)) := by rw [← cellV_at c x y hy, ← cellsL_succ]; rfl
      rw [e]
      by_cases hs : y + 1 < c
      · exact ih x (y + 1) hs hx (by omega)
      · obtain rfl : c = y + 1 := by omega
        rw [spec_l03Cells.l1v_eq, if_neg (by omega), spec_l03Cells.l0v_eq, w64 (by omega) (by omega)]
        have e2 : x * (y + 1) + (y + 1) = (x + 1) * (y + 1) := (Nat.succ_mul x (y + 1)).symm
        rw [e2]
        by_cases hx' : x + 1 < a
        · rw [if_pos (by omega)]
          have := ih (x + 1) 0 (by omega) hx' (by omega)
          simpa using this
        · obtain rfl : a = x + 1 := by omega
          rw [if_neg (by omega)]
  rcases Nat.eq_zero_or_pos a with rfl | h
  · rw [spec_l03Cells.l0v_eq, if_neg (by omega)]; simp [cellsL]
  · rw [spec_l03Cells.l0v_eq, if_pos (by omega)]
    have := go (a * c) 0 0 hc h (by omega)
    simpa [cellsL] using this
theorem cells_impl (a b c : Nat) (ha : a ≤ 64) (hc : 1 ≤ c) (hc' : c ≤ 64) : impl_Lattice_cells.fv (a : Int) (b : Int) (c : Int) = some (cellsL c (a * c)) := by
  rw [impl_Lattice_cells.fv_eq]
  have go : ∀ (d x y : Nat), y < c → x < a → x * c + y + d = a * c → impl_Lattice_cells.l1v (cellsL c (x * c + y)) (x : Int) (a : Int) (x : Int) (c : Int) (y : Int) (a : Int) (b : Int) (c : Int) = some (cellsL c (a * c)) := by
    intro d
    induction d with
    | zero =>
      intro x y hy hx hd
      have := Nat.mul_le_mul_right c (show x + 1 ≤ a by omega)
      rw [Nat.succ_mul] at this
      omega
    | succ d ih =>
      intro x y hy hx hd
      have h4 := Nat.mul_le_mul ha hc'
      rw [impl_Lattice_cells.l1v_eq, if_pos (by omega), if_pos (by rw [cellsL_len]; omega), w64 (by omega) (by omega)]
      have e : cellsL c (x * c + y) ++ [(⟨(x : Int), (y : Int)⟩ : S38)] = cellsL c (x * c + (y + 1)) := by rw [← cellV_at c x y hy, ← cellsL_succ]; rfl
      rw [e]
      by_cases hs : y + 1 < c
      · exact ih x (y + 1) hs hx (by omega)
      · obtain rfl : c = y + 1 := by omega
        rw [impl_Lattice_cells.l1v_eq, if_neg (by omega), impl_Lattice_cells.l0v_eq, w64 (by omega) (by omega)]
        have e2 : x * (y + 1) + (y + 1) = (x + 1) * (y + 1) := (Nat.succ_mul x (y + 1)).symm
        rw [e2]
        by_cases hx' : x + 1 < a
        · rw [if_pos (by omega)]
          have := ih (x + 1) 0 (by omega) hx' (by omega)
          simpa using this
        · obtain rfl : a = x + 1 := by omega
          rw [if_neg (by omega)]
  rcases Nat.eq_zero_or_pos a with rfl | h
  · rw [impl_Lattice_cells.l0v_eq, if_neg (by omega)]; simp [cellsL]
  · rw [impl_Lattice_cells.l0v_eq, if_pos (by omega)]
    have := go (a * c) 0 0 hc h (by omega)
    simpa [cellsL] using this
/-- The cell to which a vector is reduced. -/
def redX (a b c x y : Int) : Int := (x - (y / c) * b) % a
def redY (c y : Int) : Int := y % c
theorem tdiv_exact {c y : Int} (hc : 0 < c) : Int.tdiv (y - y % c) c = y / c := by
  have h := Int.emod_add_mul_ediv y c
  rw [show y - y % c = c * (y / c) by omega, Int.mul_tdiv_cancel_left _ (by omega)]
theorem div_bound {c y : Int} (hc : 1 ≤ c) (hy : -1000000 ≤ y) (hy' : y ≤ 1000000) : -1000000 ≤ y / c ∧ y / c ≤ 1000000 := by
  constructor
  · rw [Int.le_ediv_iff_mul_le (by omega)]
    omega
  · have h1 : y / c < 1000001 := by
      rw [Int.ediv_lt_iff_lt_mul (by omega)]
      omega
    omega
theorem mul_bound {q b : Int} (h : -1000000 ≤ q) (h' : q ≤ 1000000) (b0 : 0 ≤ b) (b64 : b ≤ 64) : -64000000 ≤ q * b ∧ q * b ≤ 64000000 := by
  have h1 := Int.mul_le_mul_of_nonneg_right h b0
  have h2 := Int.mul_le_mul_of_nonneg_right h' b0
  omega
theorem reduce_core {a b c x y : Int} (v : LV a b c) (hx : -1000000 ≤ x) (hx' : x ≤ 1000000) (hy : -1000000 ≤ y) (hy' : y ≤ 1000000) :
    wrap64 (x - wrap64 (wrap64 (Int.tdiv (wrap64 (y - y % c)) c) * b)) = x - (y / c) * b := by
  have c1 := v.c1
  have ba := v.ba
  have a64 := v.a64
  have h0 := Int.emod_nonneg y (show c ≠ 0 by omega)
  have h1 := Int.emod_lt_of_pos y (show 0 < c by omega)
  have c64 := v.c64
  have d := div_bound c1 hy hy'
  have m := mul_bound d.1 d.2 v.b0 (by omega)
  rw [w64 (x := y - y % c) (by omega) (by omega), tdiv_exact (by omega), w64 (x := y / c) (by omega) (by omega), w64 (x := y / c * b) (by omega) (by omega), w64 (by omega) (by omega)]
theorem reduce_spec {a b c x y : Int} (v : LV a b c) (hx : -1000000 ≤ x) (hx' : x ≤ 1000000) (hy : -1000000 ≤ y) (hy' : y ≤ 1000000) : spec_l03Reduce.f a b c x y = some (redX a b c x y, redY c y) := by
  have c1 := v.c1
  have a1 := v.a1
  have c64 := v.c64
  have a64 := v.a64
  unfold spec_l03Reduce.f
  rw [mod_spec (by omega) (by omega), Option.bind_some, if_neg (by omega), reduce_core v hx hx' hy hy', mod_spec (by omega) (by omega)]
  rfl
theorem reduce_impl {a b c x y : Int} (v : LV a b c) (hx : -1000000 ≤ x) (hx' : x ≤ 1000000) (hy : -1000000 ≤ y) (hy' : y ≤ 1000000) : impl_Lattice_reduce.f a b c x y = some (redX a b c x y, redY c y) := by
  have c1 := v.c1
  have a1 := v.a1
  have c64 := v.c64
  have a64 := v.a64
  unfold impl_Lattice_reduce.f
  rw [mod_impl (by omega) (by omega), Option.bind_some, if_neg (by omega), reduce_core v hx hx' hy hy', mod_impl (by omega) (by omega)]
  rfl
/-- Its number. -/
def numL (a b c x y : Int) : Int := redX a b c x y * c + redY c y
theorem red_in {a b c : Int} (v : LV a b c) (x y : Int) : 0 ≤ redX a b c x y ∧ redX a b c x y < a ∧ 0 ≤ redY c y ∧ redY c y < c := by
  have c1 := v.c1
  have a1 := v.a1
  exact ⟨Int.emod_nonneg _ (by omega), Int.emod_lt_of_pos _ (by omega), Int.emod_nonneg _ (by omega), Int.emod_lt_of_pos _ (by omega)⟩
theorem num_in {a b c : Int} (v : LV a b c) (x y : Int) : 0 ≤ numL a b c x y ∧ numL a b c x y < a * c ∧ 0 ≤ redX a b c x y * c := by
  have h := red_in v x y
  have c1 := v.c1
  unfold numL
  have h1 := Int.mul_nonneg h.1 (show 0 ≤ c by omega)
  have h2 := Int.mul_le_mul_of_nonneg_right (show redX a b c x y ≤ a - 1 by omega) (show 0 ≤ c by omega)
  rw [Int.sub_mul] at h2
  omega
theorem number_spec {a b c x y : Int} (v : LV a b c) (hx : -1000000 ≤ x) (hx' : x ≤ 1000000) (hy : -1000000 ≤ y) (hy' : y ≤ 1000000) : spec_l03Number.f a b c x y = some (numL a b c x y) := by
  have h := num_in v x y
  have h2 := red_in v x y
  have ac := v.ac
  have c64 := v.c64
  unfold spec_l03Number.f
  rw [reduce_spec v hx hx' hy hy', Option.bind_some]
  simp only []
  unfold numL at h ⊢
  rw [w64 (x := redX a b c x y * c) (by omega) (by omega), w64 (by omega) (by omega)]
theorem number_impl {a b c x y : Int} (v : LV a b c) : impl_Lattice_number.f a b c (redX a b c x y) (redY c y) = some (numL a b c x y) := by
  have h := num_in v x y
  have h2 := red_in v x y
  have ac := v.ac
  have c64 := v.c64
  unfold impl_Lattice_number.f
  unfold numL at h ⊢
  rw [w64 (x := redX a b c x y * c) (by omega) (by omega), w64 (by omega) (by omega)]
/-- A reduced vector and another: as if it hadn't been reduced. -/
theorem red_add {a b c : Int} (v : LV a b c) (x y u w : Int) : redX a b c (redX a b c x y + u) (redY c y + w) = redX a b c (x + u) (y + w) ∧ redY c (redY c y + w) = redY c (y + w) := by
  have c1 := v.c1
  unfold redX redY
  have e1 := Int.emod_add_mul_ediv y c
  have hq : (y % c + w) / c = (y + w) / c - y / c := by
    rw [show y % c + w = (y + w) + c * (-(y / c)) by rw [Int.mul_neg]; omega, Int.add_mul_ediv_left _ _ (by omega)]; omega
  constructor
  · rw [hq, Int.sub_mul]
    rw [show (x - y / c * b) % a + u - ((y + w) / c * b - y / c * b) = (x - y / c * b) % a + (u - ((y + w) / c * b - y / c * b)) by omega, Int.emod_add_emod]
    congr 1
    omega
  · rw [Int.emod_add_emod]
/-- A cell is reduced. -/
theorem red_cell {a b c x y : Int} (x0 : 0 ≤ x) (xa : x < a) (y0 : 0 ≤ y) (yc : y < c) : redX a b c x y = x ∧ redY c y = y := by
  unfold redX redY
  rw [Int.ediv_eq_zero_of_lt y0 yc]
  refine ⟨?_, Int.emod_eq_of_lt y0 yc⟩
  rw [show x - 0 * b = x by omega]
  exact Int.emod_eq_of_lt x0 xa
/-- The cell with a number. -/
theorem cell_num {a b c : Int} (v : LV a b c) (n : Nat) (hn : (n : Int) < a * c) : ∃ x y : Int, cellV c.toNat n = ⟨x, y⟩ ∧ 0 ≤ x ∧ x < a ∧ 0 ≤ y ∧ y < c ∧ x * c + y = n := by
  have c1 := v.c1
  obtain ⟨k, rfl⟩ : ∃ k : Nat, c = (k : Int) := ⟨c.toNat, by omega⟩
  refine ⟨((n / k : Nat) : Int), ((n % k : Nat) : Int), rfl, Int.natCast_nonneg _, ?_, Int.natCast_nonneg _, ?_, ?_⟩
  · rw [Int.natCast_ediv]
    exact Int.ediv_lt_of_lt_mul (by omega) hn
  · have := Nat.mod_lt n (show 0 < k by omega)
    omega
  · have := Nat.div_add_mod n k
    rw [← Int.natCast_mul, ← Int.natCast_add, Nat.mul_comm]
    omega
theorem num_inj {c x y x' y' : Int} (y0 : 0 ≤ y) (yc : y < c) (y0' : 0 ≤ y') (yc' : y' < c) (h : x * c + y = x' * c + y') : x = x' ∧ y = y' := by
  have h1 : y % c = y' % c := by
    have a : (x * c + y) % c = y % c := by rw [Int.add_comm, Int.add_mul_emod_self_right]
    have b : (x' * c + y') % c = y' % c := by rw [Int.add_comm, Int.add_mul_emod_self_right]
    rw [← a, ← b, h]
  rw [Int.emod_eq_of_lt y0 yc, Int.emod_eq_of_lt y0' yc'] at h1
  subst h1
  have h2 : x * c = x' * c := by omega
  exact ⟨Int.eq_of_mul_eq_mul_right (by omega) h2, rfl⟩

theorem own_v (l : List Int) (hl : l.length ≤ 1048576) : spec_l01Own.f l = some l := by
  unfold spec_l01Own.f
  simp only [Option.bind_some, List.length_nil, List.nil_append]
  rw [if_pos (by omega)]
/-- The number of the cell to which a shift takes the cell with number j. -/
def goto (a b c sx sy : Int) (j : Nat) : Int := numL a b c ((cellV c.toNat j).f0 + sx) ((cellV c.toNat j).f1 + sy)
theorem goto_in {a b c : Int} (v : LV a b c) (sx sy : Int) (j : Nat) : 0 ≤ goto a b c sx sy j ∧ goto a b c sx sy j < a * c := by
  have := num_in v ((cellV c.toNat j).f0 + sx) ((cellV c.toNat j).f1 + sy)
  exact ⟨this.1, this.2.1⟩
/-- The cell with the number of a reduced vector is that vector. -/
theorem cell_of_num {a b c : Int} (v : LV a b c) (x y : Int) : cellV c.toNat (numL a b c x y).toNat = ⟨redX a b c x y, redY c y⟩ := by
  have h := num_in v x y
  have r := red_in v x y
  obtain ⟨p, q, e, p0, pa, q0, qc, pq⟩ := cell_num v (numL a b c x y).toNat (by omega)
  rw [e]
  have := num_inj (c := c) (x := p) (y := q) (x' := redX a b c x y) (y' := redY c y) q0 qc r.2.2.1 r.2.2.2 (by rw [pq]; unfold numL at h ⊢; omega)
  rw [this.1, this.2]
theorem goto_back {a b c : Int} (v : LV a b c) (sx sy : Int) (i : Nat) (hi : (i : Int) < a * c) : goto a b c (-sx) (-sy) (goto a b c sx sy i).toNat = i := by
  obtain ⟨p, q, e, p0, pa, q0, qc, pq⟩ := cell_num v i hi
  have h1 := cell_of_num v ((cellV c.toNat i).f0 + sx) ((cellV c.toNat i).f1 + sy)
  unfold goto
  rw [h1, e]
  have h2 := red_add v (p + sx) (q + sy) (-sx) (-sy)
  have h3 := red_cell (a := a) (b := b) (c := c) p0 pa q0 qc
  simp only []
  unfold numL
  rw [h2.1, h2.2, show p + sx + -sx = p by omega, show q + sy + -sy = q by omega, h3.1, h3.2, pq]
theorem goto_iff {a b c : Int} (v : LV a b c) (sx sy : Int) (i j : Nat) (hi : (i : Int) < a * c) (hj : (j : Int) < a * c) : goto a b c sx sy i = j ↔ goto a b c (-sx) (-sy) j = i := by
  constructor
  · intro h
    have := goto_back v sx sy i hi
    rw [h] at this
    simpa using this
  · intro h
    have := goto_back v (-sx) (-sy) j hj
    rw [h] at this
    simpa using this
/-- What is printed with one ink through a mask, shifted. -/
def overL (a b c : Int) (o l : List Int) (ink sx sy : Int) (n : Nat) : List Int := (List.range o.length).map fun j => if rd l (goto a b c (-sx) (-sy) j) = 1 ∧ goto a b c (-sx) (-sy) j < n then ink else o.getD j 0
theorem overL_len (a b c : Int) (o l : List Int) (ink sx sy : Int) (n : Nat) : (overL a b c o l ink sx sy n).length = o.length := by simp [overL]
theorem overL_get (a b c : Int) (o l : List Int) (ink sx sy : Int) (n j : Nat) (h : j < o.length) : (overL a b c o l ink sx sy n).getD j 0 = if rd l (goto a b c (-sx) (-sy) j) = 1 ∧ goto a b c (-sx) (-sy) j < n then ink else o.getD j 0 := by
  unfold overL
  rw [List.getD_eq_getElem?_getD, List.getElem?_map, List.getElem?_range h]
  rfl
theorem getD_ext {l m : List Int} (h : l.length = m.length) (h' : ∀ j, j < l.length → l.getD j 0 = m.getD j 0) : l = m := by
  apply List.ext_getElem h
  intro j h1 h2
  have := h' j h1
  rwa [List.getD_eq_getElem?_getD, List.getD_eq_getElem?_getD, List.getElem?_eq_getElem h1, List.getElem?_eq_getElem h2] at this
theorem overL_zero {a b c : Int} (v : LV a b c) (o l : List Int) (ink sx sy : Int) : overL a b c o l ink sx sy 0 = o := by
  apply getD_ext (overL_len ..)
  intro j hj
  rw [overL_len] at hj
  rw [overL_get _ _ _ _ _ _ _ _ _ _ hj, if_neg]
  have := (goto_in v (-sx) (-sy) j).1
  omega
theorem overL_succ {a b c : Int} (v : LV a b c) (o l : List Int) (ink sx sy : Int) (n : Nat) (hn : (n : Int) < a * c) (ho : (o.length : Int) = a * c) :
    overL a b c o l ink sx sy (n + 1) = if rd l (n : Int) = 1 then (overL a b c o l ink sx sy n).set (goto a b c sx sy n).toNat ink else overL a b c o l ink sx sy n := by
  have hg := goto_in v sx sy n
  apply getD_ext
  · split <;> simp [overL_len]
  intro j hj
  rw [overL_len] at hj
  have hi := goto_iff v sx sy n j hn (by omega)
  have hp := goto_in v (-sx) (-sy) j
  rw [overL_get _ _ _ _ _ _ _ _ _ _ hj]
  by_cases h1 : rd l (n : Int) = 1
  · rw [if_pos h1]
    by_cases h2 : goto a b c sx sy n = j
    · have h3 := hi.1 h2
      rw [h3, if_pos ⟨h1, by omega⟩, h2, Int.toNat_natCast, List.getD_eq_getElem?_getD, List.getElem?_set_self (by rw [overL_len]; omega)]
      rfl
    · have h3 : goto a b c (-sx) (-sy) j ≠ n := fun h => h2 (hi.2 h)
      have e4 : ((overL a b c o l ink sx sy n).set (goto a b c sx sy n).toNat ink).getD j 0 = (overL a b c o l ink sx sy n).getD j 0 := by
        rw [List.getD_eq_getElem?_getD, List.getElem?_set_ne (by omega), ← List.getD_eq_getElem?_getD]
      rw [e4, overL_get _ _ _ _ _ _ _ _ _ _ hj]
      by_cases h4 : rd l (goto a b c (-sx) (-sy) j) = 1 ∧ goto a b c (-sx) (-sy) j < (n : Int)
      · rw [if_pos h4, if_pos ⟨h4.1, by omega⟩]
      · rw [if_neg h4, if_neg (fun h => h4 ⟨h.1, by omega⟩)]
  · rw [if_neg h1, overL_get _ _ _ _ _ _ _ _ _ _ hj]
    by_cases h4 : rd l (goto a b c (-sx) (-sy) j) = 1 ∧ goto a b c (-sx) (-sy) j < (n : Int)
    · rw [if_pos h4, if_pos ⟨h4.1, by omega⟩]
    · rw [if_neg h4, if_neg]
      intro h
      by_cases h5 : goto a b c (-sx) (-sy) j = n
      · rw [h5] at h; exact h1 h.1
      · exact h4 ⟨h.1, by omega⟩
theorem cell_small {a b c : Int} (v : LV a b c) (n : Nat) (hn : (n : Int) < a * c) : 0 ≤ (cellV c.toNat n).f0 ∧ (cellV c.toNat n).f0 < 64 ∧ 0 ≤ (cellV c.toNat n).f1 ∧ (cellV c.toNat n).f1 < 64 := by
  obtain ⟨x, y, e, x0, xa, y0, yc, _⟩ := cell_num v n hn
  rw [e]
  have := v.a64
  have := v.c64
  show 0 ≤ x ∧ x < 64 ∧ 0 ≤ y ∧ y < 64
  exact ⟨x0, by omega, y0, by omega⟩
theorem over_spec {f a b c : Int} {l o : List Int} (v : LV a b c) (hl : (l.length : Int) = a * c) (ho : (o.length : Int) = a * c) (ink sx sy : Int) (hx : -900000 ≤ sx) (hx' : sx ≤ 900000) (hy : -900000 ≤ sy) (hy' : sy ≤ 900000) :
    spec_l25Over.fv f a b c o f a b c l ink sx sy = some (f, a, b, c, overL a b c o l ink sx sy o.length) := by
  have ac := v.ac
  have a64 := v.a64
  have c64 := v.c64
  have hc := cells_spec a.toNat b.toNat c.toNat (by have := v.a64; omega) (by have := v.c1; omega) (by have := v.c64; omega)
  rw [Int.toNat_of_nonneg (by have := v.a1; omega), Int.toNat_of_nonneg v.b0, Int.toNat_of_nonneg (by have := v.c1; omega)] at hc
  have hn : (a.toNat * c.toNat : Nat) = o.length := by
    have : ((a.toNat * c.toNat : Nat) : Int) = a * c := by
      rw [Int.natCast_mul, Int.toNat_of_nonneg (by have := v.a1; omega), Int.toNat_of_nonneg (by have := v.c1; omega)]
    omega
  rw [hn] at hc
  rw [spec_l25Over.fv_eq, hc, Option.bind_some, own_v o (by omega), Option.bind_some]
  have go : ∀ (d n : Nat), n + d = o.length → spec_l25Over.l0v ink (cellsL c.toNat o.length) (n : Int) f a b c o f a b c l sx sy f a b c (overL a b c o l ink sx sy n) = some (f, a, b, c, overL a b c o l ink sx sy o.length) := by
    intro d
    induction d with
    | zero =>
      intro n hd
      obtain rfl : n = o.length := by omega
      rw [spec_l25Over.l0v_eq, if_neg (by rw [cellsL_len]; omega)]
    | succ d ih =>
      intro n hd
      have hs := cell_small v n (by omega)
      rw [spec_l25Over.l0v_eq, if_pos (by rw [cellsL_len]; omega), if_pos (by omega), if_pos (by omega), w64 (x := (n : Int) + 1) (by omega) (by omega), show (n : Int) + 1 = ((n + 1 : Nat) : Int) by omega, cellsL_get _ _ _ (by omega)]
      have hg := goto_in v sx sy n
      have := overL_succ v o l ink sx sy n (by omega) ho
      by_cases h1 : rd l (n : Int) = 1
      · rw [if_pos h1] at this ⊢
        unfold spec_l01Add.f
        rw [Option.bind_some]
        simp only []
        rw [w64 (by omega) (by omega), w64 (by omega) (by omega), number_spec v (by omega) (by omega) (by omega) (by omega), Option.bind_some]
        unfold goto at hg this
        rw [if_pos hg.1, if_pos (by rw [overL_len]; omega), ← this]
        exact ih (n + 1) (by omega)
      · rw [if_neg h1] at this ⊢
        rw [← this]
        exact ih (n + 1) (by omega)
  have := go o.length 0 (by omega)
  rw [overL_zero v] at this
  exact this
/-- The mask with its neighbours. -/
def spreadL (a b c : Int) (l : List Int) : List Int := (List.range l.length).map fun j =>
  mx (mx (mx (mx (l.getD j 0) (rd l (goto a b c 1 0 j))) (rd l (goto a b c 0 1 j))) (rd l (goto a b c (-1) 0 j))) (rd l (goto a b c 0 (-1) j))
theorem spreadL_len (a b c : Int) (l : List Int) : (spreadL a b c l).length = l.length := by simp [spreadL]
theorem at_impl_v {f a b c : Int} {l : List Int} (v : LV a b c) (hl : (l.length : Int) = a * c) (x y : Int) (hx : -1000000 ≤ x) (hx' : x ≤ 1000000) (hy : -1000000 ≤ y) (hy' : y ≤ 1000000) : impl_Pattern_at.f f a b c l x y = some (rd l (numL a b c x y)) := by
  have h := num_in v x y
  unfold impl_Pattern_at.f
  rw [reduce_impl v hx hx' hy hy', Option.bind_some, number_impl v, Option.bind_some, if_pos h.1, if_pos (by omega)]
theorem mx01 {x y : Int} (hx : x = 0 ∨ x = 1) (hy : y = 0 ∨ y = 1) : mx x y = if y = 1 then 1 else x := by
  unfold mx
  rcases hx with rfl | rfl <;> rcases hy with rfl | rfl <;> decide
theorem mx5 {z0 z1 z2 z3 z4 : Int} (e0 : z0 = 0 ∨ z0 = 1) (e1 : z1 = 0 ∨ z1 = 1) (e2 : z2 = 0 ∨ z2 = 1) (e3 : z3 = 0 ∨ z3 = 1) (e4 : z4 = 0 ∨ z4 = 1) :
    (if z2 = 1 then 1 else if z1 = 1 then 1 else if z4 = 1 then 1 else if z3 = 1 then 1 else z0) = mx (mx (mx (mx z0 z1) z2) z3) z4 := by
  rcases e0 with rfl | rfl <;> rcases e1 with rfl | rfl <;> rcases e2 with rfl | rfl <;> rcases e3 with rfl | rfl <;> rcases e4 with rfl | rfl <;> rfl
theorem rd01 {l : List Int} (h : ∀ x ∈ l, 0 ≤ x ∧ x ≤ 1) (i : Int) : rd l i = 0 ∨ rd l i = 1 := by
  unfold rd
  rw [List.getD_eq_getElem?_getD]
  by_cases hi : i.toNat < l.length
  · rw [List.getElem?_eq_getElem hi]
    have := h _ (List.getElem_mem hi)
    simp only [Option.getD_some]
    omega
  · rw [List.getElem?_eq_none (by omega)]
    exact .inl rfl
theorem spread_impl {f a b c : Int} {l : List Int} (v : LV a b c) (hl : (l.length : Int) = a * c) :
    impl_SpreadMask.l0v (cellsL c.toNat l.length) (l.length : Int) 0 f a b c l f a b c [] = some (f, a, b, c, spreadL a b c l, 0) := by
  have ac := v.ac
  have a64 := v.a64
  have c64 := v.c64
  have go : ∀ (d n : Nat) (o : List Int), n + d = l.length → o.length = n → impl_SpreadMask.l0v (cellsL c.toNat l.length) (l.length : Int) (n : Int) f a b c l f a b c o = some (f, a, b, c, o ++ (spreadL a b c l).drop n, 0) := by
    intro d
    induction d with
    | zero =>
      intro n o hd ho
      rw [impl_SpreadMask.l0v_eq, if_neg (by omega), List.drop_of_length_le (by rw [spreadL_len]; omega), List.append_nil]
    | succ d ih =>
      intro n o hd ho
      have hs := cell_small v n (by omega)
      rw [impl_SpreadMask.l0v_eq, if_pos (by omega), if_pos (by omega), if_pos (by rw [cellsL_len]; omega), if_pos (by omega), cellsL_get _ _ _ (by omega)]
      unfold impl_neighbours.f impl_Vec_add.f
      simp only [Option.bind_some]
      rw [w64 (x := (cellV c.toNat n).f0 + 1) (by omega) (by omega), w64 (x := (cellV c.toNat n).f0 + 0) (by omega) (by omega), w64 (x := (cellV c.toNat n).f0 + -1) (by omega) (by omega), w64 (x := (cellV c.toNat n).f1 + 1) (by omega) (by omega), w64 (x := (cellV c.toNat n).f1 + 0) (by omega) (by omega), w64 (x := (cellV c.toNat n).f1 + -1) (by omega) (by omega)]
      rw [impl_SpreadMask.l1v_eq, if_pos (by simp), if_pos (by simp), if_pos (by simp), at_impl_v v hl _ _ (by show -1000000 ≤ (cellV c.toNat n).f0 + 1; omega) (by show (cellV c.toNat n).f0 + 1 ≤ 1000000; omega) (by show -1000000 ≤ (cellV c.toNat n).f1 + 0; omega) (by show (cellV c.toNat n).f1 + 0 ≤ 1000000; omega), Option.bind_some, show wrap64 (0 + 1) = 1 by rw [w64 (by omega) (by omega)]; rfl]
      rw [impl_SpreadMask.l1v_eq, if_pos (by simp), if_pos (by simp), if_pos (by simp), at_impl_v v hl _ _ (by show -1000000 ≤ (cellV c.toNat n).f0 + 0; omega) (by show (cellV c.toNat n).f0 + 0 ≤ 1000000; omega) (by show -1000000 ≤ (cellV c.toNat n).f1 + 1; omega) (by show (cellV c.toNat n).f1 + 1 ≤ 1000000; omega), Option.bind_some, show wrap64 (1 + 1) = 2 by rw [w64 (by omega) (by omega)]; rfl]
      rw [impl_SpreadMask.l1v_eq, if_pos (by simp), if_pos (by simp), if_pos (by simp), at_impl_v v hl _ _ (by show -1000000 ≤ (cellV c.toNat n).f0 + -1; omega) (by show (cellV c.toNat n).f0 + -1 ≤ 1000000; omega) (by show -1000000 ≤ (cellV c.toNat n).f1 + 0; omega) (by show (cellV c.toNat n).f1 + 0 ≤ 1000000; omega), Option.bind_some, show wrap64 (2 + 1) = 3 by rw [w64 (by omega) (by omega)]; rfl]
      rw [impl_SpreadMask.l1v_eq, if_pos (by simp), if_pos (by simp), if_pos (by simp), at_impl_v v hl _ _ (by show -1000000 ≤ (cellV c.toNat n).f0 + 0; omega) (by show (cellV c.toNat n).f0 + 0 ≤ 1000000; omega) (by show -1000000 ≤ (cellV c.toNat n).f1 + -1; omega) (by show (cellV c.toNat n).f1 + -1 ≤ 1000000; omega), Option.bind_some, show wrap64 (3 + 1) = 4 by rw [w64 (by omega) (by omega)]; rfl]
      rw [impl_SpreadMask.l1v_eq, if_neg (by simp), if_pos (by omega), w64 (x := (n : Int) + 1) (by omega) (by omega), show (n : Int) + 1 = ((n + 1 : Nat) : Int) by omega, ih (n + 1) _ (by omega) (by simp [ho])]
      have hlt : n < (spreadL a b c l).length := by rw [spreadL_len]; omega
      have hd2 : (spreadL a b c l).drop n = (spreadL a b c l)[n] :: (spreadL a b c l).drop (n + 1) := List.drop_eq_getElem_cons hlt
      rw [hd2]
      have : (spreadL a b c l)[n] = mx (mx (mx (mx (rd l (n : Int)) (rd l (goto a b c 1 0 n))) (rd l (goto a b c 0 1 n))) (rd l (goto a b c (-1) 0 n))) (rd l (goto a b c 0 (-1) n)) := by
        rw [rd_nat']
        simp [spreadL]
      rw [this, List.append_assoc]
      rfl
  have := go l.length 0 [] (by omega) rfl
  simpa using this
theorem spread_spec {f a b c : Int} {l : List Int} (v : LV a b c) (hl : (l.length : Int) = a * c) (h01 : ∀ x ∈ l, 0 ≤ x ∧ x ≤ 1) :
    spec_SpreadMask.l0v [(⟨1, 0⟩ : S38), ⟨0, 1⟩, ⟨-1, 0⟩, ⟨0, -1⟩] 0 f a b c l f a b c l = some (f, a, b, c, spreadL a b c l, 0) := by
  have ac := v.ac
  have key : ∀ (o : List Int) (sx sy : Int), (o.length : Int) = a * c → overL a b c o l 1 sx sy o.length = (List.range l.length).map fun j => if rd l (goto a b c (-sx) (-sy) j) = 1 then 1 else o.getD j 0 := by
    intro o sx sy ho
    unfold overL
    rw [show o.length = l.length by omega]
    apply List.map_congr_left
    intro j hj
    have := goto_in v (-sx) (-sy) j
    by_cases h : rd l (goto a b c (-sx) (-sy) j) = 1
    · rw [if_pos h, if_pos ⟨h, by omega⟩]
    · rw [if_neg h, if_neg (fun k => h k.1)]
  have len : ∀ (g : Nat → Int), (((List.range l.length).map g).length : Int) = a * c := by intro g; simpa using hl
  have get : ∀ (g : Nat → Int) (j : Nat), j ∈ List.range l.length → ((List.range l.length).map g).getD j 0 = g j := by
    intro g j hj
    rw [List.mem_range] at hj
    rw [List.getD_eq_getElem?_getD, List.getElem?_map, List.getElem?_range hj]
    rfl
  rw [spec_SpreadMask.l0v_eq, if_pos (by simp), if_pos (by simp), if_pos (by simp)]
  rw [show ((rd_T38 [(⟨1, 0⟩ : S38), ⟨0, 1⟩, ⟨-1, 0⟩, ⟨0, -1⟩] 0).f0) = 1 from rfl, show ((rd_T38 [(⟨1, 0⟩ : S38), ⟨0, 1⟩, ⟨-1, 0⟩, ⟨0, -1⟩] 0).f1) = 0 from rfl, over_spec v hl hl 1 1 0 (by omega) (by omega) (by omega) (by omega), Option.bind_some, key l 1 0 hl, show wrap64 (0 + 1) = 1 by rw [w64 (by omega) (by omega)]; rfl]
  simp only []
  rw [spec_SpreadMask.l0v_eq, if_pos (by simp), if_pos (by simp), if_pos (by simp)]
  rw [show ((rd_T38 [(⟨1, 0⟩ : S38), ⟨0, 1⟩, ⟨-1, 0⟩, ⟨0, -1⟩] 1).f0) = 0 from rfl, show ((rd_T38 [(⟨1, 0⟩ : S38), ⟨0, 1⟩, ⟨-1, 0⟩, ⟨0, -1⟩] 1).f1) = 1 from rfl, over_spec v hl (len _) 1 0 1 (by omega) (by omega) (by omega) (by omega), Option.bind_some, key _ 0 1 (len _), show wrap64 (1 + 1) = 2 by rw [w64 (by omega) (by omega)]; rfl]
  simp only []
  rw [spec_SpreadMask.l0v_eq, if_pos (by simp), if_pos (by simp), if_pos (by simp)]
  rw [show ((rd_T38 [(⟨1, 0⟩ : S38), ⟨0, 1⟩, ⟨-1, 0⟩, ⟨0, -1⟩] 2).f0) = -1 from rfl, show ((rd_T38 [(⟨1, 0⟩ : S38), ⟨0, 1⟩, ⟨-1, 0⟩, ⟨0, -1⟩] 2).f1) = 0 from rfl, over_spec v hl (len _) 1 (-1) 0 (by omega) (by omega) (by omega) (by omega), Option.bind_some, key _ (-1) 0 (len _), show wrap64 (2 + 1) = 3 by rw [w64 (by omega) (by omega)]; rfl]
  simp only []
  rw [spec_SpreadMask.l0v_eq, if_pos (by simp), if_pos (by simp), if_pos (by simp)]
  rw [show ((rd_T38 [(⟨1, 0⟩ : S38), ⟨0, 1⟩, ⟨-1, 0⟩, ⟨0, -1⟩] 3).f0) = 0 from rfl, show ((rd_T38 [(⟨1, 0⟩ : S38), ⟨0, 1⟩, ⟨-1, 0⟩, ⟨0, -1⟩] 3).f1) = -1 from rfl, over_spec v hl (len _) 1 0 (-1) (by omega) (by omega) (by omega) (by omega), Option.bind_some, key _ 0 (-1) (len _), show wrap64 (3 + 1) = 4 by rw [w64 (by omega) (by omega)]; rfl]
  simp only []
  rw [spec_SpreadMask.l0v_eq, if_neg (by simp), own_v _ (by simp; omega), Option.bind_some]
  simp only [Option.some.injEq, Prod.mk.injEq, true_and, and_true]
  unfold spreadL
  apply List.map_congr_left
  intro j hj
  rw [get _ j hj, get _ j hj, get _ j hj]
  have e0 : l.getD j 0 = 0 ∨ l.getD j 0 = 1 := by rw [← rd_nat']; exact rd01 h01 _
  have e1 := rd01 h01 (goto a b c 1 0 j)
  have e2 := rd01 h01 (goto a b c 0 1 j)
  have e3 := rd01 h01 (goto a b c (-1) 0 j)
  have e4 := rd01 h01 (goto a b c 0 (-1) j)
  simp only [Int.neg_neg, Int.neg_zero]
  exact mx5 e0 e1 e2 e3 e4
end Go.Proofs.Ytomgliinndfliaa.Q
namespace Go.Proofs.Ytomgliinndfliaa.Pure
open Go.RowKit Go.Proofs.Ytomgliinndfliaa.X Go.Proofs.Ytomgliinndfliaa.Q Go.Proofs.YtomgliinndfliaaW.PrintWords
set_option linter.unusedSimpArgs false
set_option linter.unusedVariables false

theorem spreadMask_both (f a b c : Int) (l : List Int) (hl : l.length ≤ 1048576) : ∃ (gf ga gb gc : Int) (gl : List Int) (e : Int), gl.length ≤ 1048576 ∧ spec_SpreadMask.fv f a b c l = some (gf, ga, gb, gc, gl, e) ∧ impl_SpreadMask.fv f a b c l = some (gf, ga, gb, gc, gl, e) := by
  rw [spec_SpreadMask.fv_eq, impl_SpreadMask.fv_eq, within_all l 0 1 64 (by omega), Option.bind_some, spec_l25Code.fv_eq, pat_spec f a b c l (by omega), pat_impl, all_impl]
  simp only [Option.bind_some]
  cases hp : patB f a b c l with
  | false => exact ⟨0, 0, 0, 0, [], 1, by simp, by simp, by simp⟩
  | true =>
    have pv := pv_of hp
    have lv := lv_of pv.lat
    have h64 := pv.l64
    cases hi : l.all (inB 0 1) with
    | false => exact ⟨0, 0, 0, 0, [], 2, by simp, by simp, by simp⟩
    | true =>
      have h01 : ∀ x ∈ l, 0 ≤ x ∧ x ≤ 1 := by
        intro x hx
        have := List.all_eq_true.1 hi x hx
        exact inB_iff.1 this
      have hc := cells_impl a.toNat b.toNat c.toNat (by have := lv.a64; omega) (by have := lv.c1; omega) (by have := lv.c64; omega)
      rw [Int.toNat_of_nonneg (by have := lv.a1; omega), Int.toNat_of_nonneg lv.b0, Int.toNat_of_nonneg (by have := lv.c1; omega)] at hc
      have hn : (a.toNat * c.toNat : Nat) = l.length := by
        have h1 : ((a.toNat * c.toNat : Nat) : Int) = a * c := by
          rw [Int.natCast_mul, Int.toNat_of_nonneg (by have := lv.a1; omega), Int.toNat_of_nonneg (by have := lv.c1; omega)]
        have := pv.len
        omega
      rw [hn] at hc
      have h1 := spread_spec (f := f) lv pv.len h01
      have h2 := spread_impl (f := f) lv pv.len
      have h3 : (l.length : Int) ≤ 64 := by omega
      unfold spec_l21Steps.f
      simp only [if_true, Option.bind_some, hc, cellsL_len, h2, h3, decide_true, Bool.and_true]
      refine ⟨_, _, _, _, _, _, ?_, h1, rfl⟩
      rw [spreadL_len]; exact hl
theorem FnExactSpreadMask : laws_FnExactSpreadMask.Pure := by
  intro f a b c l ⟨wf, wl, hl, wc⟩
  apply lim_some (laws_FnExactSpreadMask.f_mono f a b c l)
  show laws_FnExactSpreadMask.fv f a b c l = some true
  rw [laws_FnExactSpreadMask.fv_eq, szPattern_v f a b c l hl, Option.bind_some]
  by_cases hs : (l.length : Int) ≤ 1048576
  · rw [if_pos hs, if_neg (by omega)]
    have ht := toPattern_v f a b c l (by omega)
    obtain ⟨gf, ga, gb, gc, gl, e, hg, h1, h2⟩ := spreadMask_both f a b c l (by omega)
    have m1 := markPattern_v f a b c l (by omega)
    have m2 := markPattern_v gf ga gb gc gl hg
    have n2 := heldPattern_v gf ga gb gc gl.length hg
    have e1 := eqPattern_v f a b c l (by omega)
    have e2 := eqPattern_v gf ga gb gc gl (by omega)
    have p1 : ¬ (1 + (l.length : Int) < 0) := by omega
    have p2 : ¬ (1 + (gl.length : Int) < 0) := by omega
    simp only [ht, h1, h2, Option.bind_some, e2, if_true, bne_self_eq_false, e1, m1, p1, if_false, m2, n2, p2, Bool.false_eq_true]
  · rw [if_neg hs, if_pos (by omega)]
end Go.Proofs.Ytomgliinndfliaa.Pure
