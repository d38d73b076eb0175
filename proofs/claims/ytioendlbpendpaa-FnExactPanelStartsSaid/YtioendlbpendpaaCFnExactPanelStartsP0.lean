/- Part of the proof of the law FnExactPanelStarts: the plain statement. No condition of its own. -/
import Derived.Test.YtioendlbpendpaaCFnExactPanelStartsE0
namespace Go.Proofs.Ytioendlbpendpaa.X
open Go.RowKit Go.Proofs.YtioendlbpendpaaW.PrintWords Go.Proofs.YtioendlbpendpaaW.PrintLast Go.Proofs.YtioendlbpendpaaW.PrintMore
def xF.Pure : Prop := ∀ (a0_0 : Int) (a0_1 : Int) (a0_2 : Int) (a0_3 : Int) (l0_4 : List Int) (a1 : Int) (a2 : Int) (a3 : Int), ((Lit.int .i64 a0_0).wf = true ∧ ((Lit.int .i64 a0_1).wf = true ∧ (Lit.int .i64 a0_2).wf = true ∧ (Lit.int .i64 a0_3).wf = true) ∧ (l0_4.length ≤ maxLen ∧ ∀ x_ ∈ l0_4, (Lit.int .i64 x_).wf = true)) → (Lit.int .i64 a1).wf = true → (Lit.int .i64 a2).wf = true → (Lit.int .i64 a3).wf = true → ∃ k, xF.f k a0_0 a0_1 a0_2 a0_3 l0_4 a1 a2 a3 = some true
end Go.Proofs.Ytioendlbpendpaa.X
namespace Go.Proofs.Ytioendlbpendpaa.Q
open Go.RowKit Go.Proofs.Ytioendlbpendpaa.X Go.Proofs.YtioendlbpendpaaW.PrintWords Go.Proofs.YtioendlbpendpaaW.PrintMore
theorem w64 {x : Int} (h : -9223372036854775808 ≤ x) (h' : x ≤ 9223372036854775807) : wrap64 x = x := by unfold wrap64; omega
theorem maxLen_eq : maxLen = 9223372036854775807 := rfl
theorem rd_eq {l : List Int} {i : Int} (h : 0 ≤ i) (h' : i < l.length) : rd l i = l[i.toNat]'(by omega) := by
  unfold rd
  rw [List.getD_eq_getElem?_getD, List.getElem?_eq_getElem (by omega)]
  rfl
theorem rd_nat {l : List Int} {i : Nat} (h : i < l.length) : rd l (i : Int) = l[i] := by
  rw [rd_eq (by omega) (by omega)]
  simp
theorem rd_nat' (l : List Int) (i : Nat) : rd l (i : Int) = l.getD i 0 := by
  unfold rd
  rw [Int.toNat_natCast]
theorem tmod_small {a n : Int} (h : 0 ≤ a) (h' : a < n) : Int.tmod a n = a := Int.tmod_eq_of_lt h h'
theorem tmod_emod {a n : Int} (hn : 0 < n) : Int.tmod a n = if 0 ≤ a ∨ n ∣ a then a % n else a % n - n := by
  rw [Int.tmod_eq_emod]
  by_cases h : 0 ≤ a ∨ n ∣ a
  · rw [if_pos h, if_pos h]; omega
  · rw [if_neg h, if_neg h]; omega
/-- The remainder that is at least 0, as both programs reckon it. -/
theorem mod_spec {a n : Int} (hn : 0 < n) (hn' : n ≤ 4611686018427387904) : xU.f a n = some (a % n) := by
  unfold xU.f
  rw [if_neg (by omega)]
  have h0 := Int.emod_nonneg a (show n ≠ 0 by omega)
  have h1 := Int.emod_lt_of_pos a hn
  by_cases h : 0 ≤ a ∨ n ∣ a
  · rw [tmod_emod hn, if_pos h, if_neg (by omega)]
  · rw [tmod_emod hn, if_neg h, if_pos (by omega), w64 (by omega) (by omega)]
    congr 1
    omega
theorem mod_impl {a n : Int} (hn : 0 < n) (hn' : n ≤ 4611686018427387904) : wG.f a n = some (a % n) := by
  unfold wG.f
  rw [if_neg (by omega)]
  have h0 := Int.emod_nonneg a (show n ≠ 0 by omega)
  have h1 := Int.emod_lt_of_pos a hn
  by_cases h : 0 ≤ a ∨ n ∣ a
  · rw [tmod_emod hn (a := a), if_pos h, w64 (by omega) (by omega), tmod_emod hn, if_pos (by omega), Int.add_emod_right, Int.emod_emod_of_dvd _ (Int.dvd_refl n)]
  · rw [tmod_emod hn (a := a), if_neg h, w64 (by omega) (by omega), tmod_emod hn, if_pos (by omega)]
    congr 1
    rw [show a % n - n + n = a % n by omega, Int.emod_emod_of_dvd _ (Int.dvd_refl n)]
theorem rd_replicate (n : Nat) (i : Int) : rd (List.replicate n 0) i = 0 := by
  unfold rd
  rw [List.getD_eq_getElem?_getD, List.getElem?_replicate]
  split <;> rfl
def iter {σ : Type} (step : Int → σ → σ) : Nat → Int → σ → σ
  | 0, _, s => s
  | d + 1, i, s => iter step d (i + 1) (step i s)
/-- A loop from i to n that turns its state at each round and ends with fin. -/
theorem fold_loop {σ ρ : Type} (F : Int → σ → ρ) (step : Int → σ → σ) (Inv : σ → Prop) (n : Int) (fin : σ → ρ) (hn : ∀ s, Inv s → F n s = fin s) (hs : ∀ i s, 0 ≤ i → i < n → Inv s → F i s = F (i + 1) (step i s) ∧ Inv (step i s)) :
    ∀ (d : Nat) (i : Int) (s : σ), 0 ≤ i → i + d = n → Inv s → F i s = fin (iter step d i s) ∧ Inv (iter step d i s) := by
  intro d
  induction d with
  | zero =>
    intro i s h0 hi hv
    obtain rfl : i = n := by omega
    exact ⟨hn s hv, hv⟩
  | succ d ih =>
    intro i s h0 hi hv
    obtain ⟨h1, h2⟩ := hs i s h0 (by omega) hv
    rw [h1]
    exact ih (i + 1) _ (by omega) (by omega) h2
theorem toInts_loop (l : List Int) (hn : l.length ≤ 35184372088832) : ∀ (d i : Nat) (x3 : List Int), i + d = l.length → x3.length = l.length → (∀ j, j < i → x3[j]? = l[j]?) → xC.l0v l x3 (i : Int) = some l := by
  intro d
  induction d with
  | zero =>
    intro i x3 hi hx hj
    rw [xC.l0v_eq, if_neg (by omega)]
    congr 1
    apply List.ext_getElem?
    intro j
    by_cases h : j < l.length
    · exact hj j (by omega)
    · rw [List.getElem?_eq_none (by omega), List.getElem?_eq_none (by omega)]
  | succ d ih =>
    intro i x3 hi hx hj
    rw [xC.l0v_eq, if_pos (by omega), if_pos (by omega), if_pos (by omega), w64 (by omega) (by omega)]
    refine ih (i + 1) _ (by omega) (by simpa using hx) (fun j h => ?_)
    rw [Int.toNat_natCast, rd_nat (by omega)]
    by_cases e : j = i
    · subst e
      rw [List.getElem?_set_self (by omega), List.getElem?_eq_getElem (by omega)]
    · rw [List.getElem?_set_ne (by omega)]
      exact hj j (by omega)
theorem toInts (l : List Int) (hn : l.length ≤ 35184372088832) : xC.fv l = some l := by
  rw [xC.fv_eq, if_pos (by omega), if_pos (by omega)]
  exact toInts_loop l hn l.length 0 _ (by omega) (by simp) (fun j h => absurd h (Nat.not_lt_zero _))
theorem szInts (l : List Int) (n : Int) (h0 : 0 ≤ n) (h1 : n ≤ 1048576) (hl : l.length ≤ maxLen) : wR.f l n = some (if (l.length : Int) ≤ n then n - l.length else -1) := by
  rw [maxLen_eq] at hl
  unfold wR.f
  rw [w64 (by omega) (by omega)]
  by_cases h : (l.length : Int) ≤ n
  · rw [if_neg (by omega), if_pos h]
  · rw [if_pos (by omega), if_neg h]
theorem eqInts_loop (a b : List Int) (hn : a.length ≤ 4611686018427387904) (hab : a.length = b.length) : ∀ (d i : Nat), i + d = a.length → (∀ j, j < i → a[j]? = b[j]?) → yN.l0v a b (i : Int) = some (decide (a = b)) := by
  intro d
  induction d with
  | zero =>
    intro i hi hj
    rw [yN.l0v_eq, if_neg (by omega)]
    have : a = b := by
      apply List.ext_getElem?
      intro j
      by_cases h : j < a.length
      · exact hj j (by omega)
      · rw [List.getElem?_eq_none (by omega), List.getElem?_eq_none (by omega)]
    simp [this]
  | succ d ih =>
    intro i hi hj
    rw [yN.l0v_eq, if_pos (by omega), if_pos (by omega), if_pos (by omega), rd_nat (by omega), rd_nat (by omega)]
    by_cases e : a[i]'(by omega) = b[i]'(by omega)
    · rw [if_pos e, w64 (by omega) (by omega)]
      refine ih (i + 1) (by omega) (fun j h => ?_)
      by_cases e' : j = i
      · subst e'
        rw [List.getElem?_eq_getElem (by omega), List.getElem?_eq_getElem (by omega), e]
      · exact hj j (by omega)
    · rw [if_neg e]
      have : a ≠ b := by
        rintro rfl
        exact e rfl
      simp [this]
theorem eqInts (a b : List Int) (hn : a.length ≤ 4611686018427387904) : yN.fv a b = some (decide (a = b)) := by
  rw [yN.fv_eq]
  by_cases h : a.length = b.length
  · rw [if_pos (by omega)]
    exact eqInts_loop a b hn h a.length 0 (by omega) (fun j h => absurd h (Nat.not_lt_zero _))
  · rw [if_neg (by omega)]
    have : a ≠ b := by
      rintro rfl
      exact h rfl
    simp [this]
/-- What marking leaves: the numbers from k on. -/
def marks (k : Int) (n : Nat) : List Int := (List.range n).map fun j : Nat => k + (j : Int)
theorem marks_length (k : Int) (n : Nat) : (marks k n).length = n := by simp [marks]
theorem marks_get (k : Int) (n j : Nat) (h : j < n) : (marks k n)[j]? = some (k + j) := by simp [marks, h]
theorem markInts_loop (k : Int) (n : Nat) (hk : 0 ≤ k) (hn : k + n ≤ 4611686018427387904) : ∀ (d i : Nat) (x0 : List Int), i + d = n → x0.length = n → (∀ j, j < i → x0[j]? = some (k + j)) → yQ.l0v x0 (k + i) (i : Int) = some (k + n, marks k n) := by
  intro d
  induction d with
  | zero =>
    intro i x0 hi hx hj
    rw [yQ.l0v_eq, if_neg (by omega)]
    obtain rfl : i = n := by omega
    congr 2
    apply List.ext_getElem?
    intro j
    by_cases h : j < i
    · rw [hj j h, marks_get _ _ _ h]
    · rw [List.getElem?_eq_none (by omega), List.getElem?_eq_none (by rw [marks_length]; omega)]
  | succ d ih =>
    intro i x0 hi hx hj
    rw [yQ.l0v_eq, if_pos (by omega), if_pos (by omega), w64 (by omega) (by omega), w64 (by omega) (by omega), Int.toNat_natCast]
    have := ih (i + 1) (x0.set i (k + i)) (by omega) (by simpa using hx) (fun j h => by
      by_cases e : j = i
      · subst e
        rw [List.getElem?_set_self (by omega)]
      · rw [List.getElem?_set_ne (by omega)]
        exact hj j (by omega))
    rw [show k + (i : Int) + 1 = k + ((i + 1 : Nat) : Int) by omega]
    exact this
theorem markInts (l : List Int) (k : Int) (hk : 0 ≤ k) (hn : k + l.length ≤ 4611686018427387904) : yQ.fv l k = some (k + l.length, marks k l.length) := by
  rw [yQ.fv_eq]
  have := markInts_loop k l.length hk hn l.length 0 l (by omega) rfl (fun j h => absurd h (Nat.not_lt_zero _))
  simpa using this
theorem heldInts_loop (k : Int) (n : Nat) (hk : 0 ≤ k) (hn : k + n ≤ 4611686018427387904) : ∀ (d i : Nat), i + d = n → yL.l0v (marks k n) (k + i) (i : Int) = some (k + n) := by
  intro d
  induction d with
  | zero =>
    intro i hi
    rw [yL.l0v_eq, if_neg (by rw [marks_length]; omega)]
    obtain rfl : i = n := by omega
    rfl
  | succ d ih =>
    intro i hi
    have e : rd (marks k n) (i : Int) = k + i := by
      rw [rd_nat', List.getD_eq_getElem?_getD, marks_get _ _ _ (by omega)]; rfl
    rw [yL.l0v_eq, if_pos (by rw [marks_length]; omega), if_pos (by omega), if_pos e, w64 (by omega) (by omega), w64 (by omega) (by omega)]
    have := ih (i + 1) (by omega)
    rw [show k + (i : Int) + 1 = k + ((i + 1 : Nat) : Int) by omega]
    exact this
theorem heldInts (k : Int) (n : Nat) (hk : 0 ≤ k) (hn : k + n ≤ 4611686018427387904) : yL.fv (marks k n) k = some (k + n) := by
  rw [yL.fv_eq]
  have := heldInts_loop k n hk hn n 0 (by omega)
  simpa using this
open Classical in
/-- A loop that asks something of each i and ends with r. -/
theorem all_loop (F : Int → Option Bool) (P : Int → Prop) (n : Int) (r : Option Bool) (hn : F n = r) (hs : ∀ i, 0 ≤ i → i < n → F i = if P i then F (i + 1) else some false) :
    ∀ (d : Nat) (i : Int), 0 ≤ i → i + d = n → F i = if (∀ j, i ≤ j → j < n → P j) then r else some false := by
  intro d
  induction d with
  | zero =>
    intro i h0 hi
    rw [if_pos (fun j h1 h2 => by omega), ← hn]
    congr 1; omega
  | succ d ih =>
    intro i h0 hi
    rw [hs i h0 (by omega)]
    by_cases hp : P i
    · rw [if_pos hp, ih (i + 1) (by omega) (by omega)]
      by_cases hq : ∀ j, i + 1 ≤ j → j < n → P j
      · rw [if_pos hq, if_pos (fun j h1 h2 => by
          by_cases e : j = i
          · rw [e]; exact hp
          · exact hq j (by omega) h2)]
      · rw [if_neg hq, if_neg (fun h => hq fun j h1 h2 => h j (by omega) h2)]
    · rw [if_neg hp, if_neg (fun h => hp (h i (by omega) (by omega)))]
open Classical in
theorem within_spec (l : List Int) (lo hi most : Int) (hl : l.length ≤ 9223372036854775807) : yY.fv l most lo hi = some (decide ((∀ x ∈ l, lo ≤ x ∧ x ≤ hi) ∧ (l.length : Int) ≤ most)) := by
  rw [yY.fv_eq]
  have := all_loop (fun i => yY.l0v l most lo hi i) (fun i => lo ≤ rd l i ∧ rd l i ≤ hi) l.length (some (decide ((l.length : Int) ≤ most)))
    (by show yY.l0v l most lo hi _ = _; rw [yY.l0v_eq, if_neg (by omega)])
    (fun i h0 h1 => by
      show yY.l0v l most lo hi _ = _
      rw [yY.l0v_eq, if_pos h1, if_pos h0]
      unfold xI.f
      rw [w64 (by omega) (by omega)]
      by_cases a : lo ≤ rd l i
      · rw [if_pos a, Option.bind_some]
        by_cases b : rd l i ≤ hi
        · rw [if_pos (by simpa using b), if_pos ⟨a, b⟩]
        · rw [if_neg (by simpa using b), if_neg (fun h => b h.2)]
      · rw [if_neg a, Option.bind_some, if_neg (by simp), if_neg (fun h => a h.1)]) l.length 0 (by omega) (by omega)
  rw [this]
  have e : (∀ j : Int, 0 ≤ j → j < l.length → lo ≤ rd l j ∧ rd l j ≤ hi) ↔ ∀ x ∈ l, lo ≤ x ∧ x ≤ hi := by
    constructor
    · intro h x hx
      obtain ⟨j, hj, rfl⟩ := List.mem_iff_getElem.1 hx
      have := h j (by omega) (by omega)
      rwa [rd_nat hj] at this
    · intro h j h0 h1
      rw [rd_eq h0 h1]
      exact h _ (List.getElem_mem _)
  by_cases h : ∀ x ∈ l, lo ≤ x ∧ x ≤ hi
  · rw [if_pos (e.2 h)]
    congr 1
    exact decide_eq_decide.2 ⟨fun q => ⟨h, q⟩, fun q => q.2⟩
  · rw [if_neg (fun k => h (e.1 k))]
    congr 1
    simp only [h, false_and, decide_false]
end Go.Proofs.Ytioendlbpendpaa.Q
namespace Go.Proofs.Ytioendlbpendpaa.Q
open Go.RowKit Go.Proofs.Ytioendlbpendpaa.X Go.Proofs.YtioendlbpendpaaW.PrintWords Go.Proofs.YtioendlbpendpaaW.PrintMore
set_option linter.unusedSimpArgs false
set_option linter.unusedVariables false
def inB (lo hi x : Int) : Bool := decide (lo ≤ x) && decide (x ≤ hi)
theorem inB_iff {lo hi x : Int} : inB lo hi x = true ↔ lo ≤ x ∧ x ≤ hi := by simp [inB]
theorem in_spec (x lo hi : Int) : xI.f x lo hi = some (inB lo hi x) := by
  unfold xI.f inB
  by_cases h : x ≥ lo
  · simp [h]
  · simp [h]
theorem in_impl (x lo hi : Int) : xP.f x lo hi = some (inB lo hi x) := by
  unfold xP.f inB
  by_cases h : x ≥ lo
  · simp [h]
  · simp [h]
theorem ite_some (b c : Bool) : (if b = true then some c else some false) = some (b && c) := by cases b <;> rfl
theorem ite_some_of (b c : Bool) (x : Option Bool) (h : b = true → x = some c) : (if b = true then x else some false) = some (b && c) := by
  cases b with
  | true => simp [h rfl]
  | false => rfl
def frB (f : Int) : Bool := inB 0 1 f
def latB (a b c : Int) : Bool := inB 1 64 a && (inB 1 64 c && (inB 0 (a - 1) b && decide (a * c ≤ 64)))
theorem latB_iff {a b c : Int} : latB a b c = true ↔ (1 ≤ a ∧ a ≤ 64) ∧ (1 ≤ c ∧ c ≤ 64) ∧ (0 ≤ b ∧ b ≤ a - 1) ∧ a * c ≤ 64 := by
  simp only [latB, Bool.and_eq_true, inB_iff, decide_eq_true_iff]
theorem mul_in {a c : Int} (a1 : 1 ≤ a) (a2 : a ≤ 64) (c1 : 1 ≤ c) (c2 : c ≤ 64) : 1 ≤ a * c ∧ a * c ≤ 4096 := by
  have h1 := Int.mul_le_mul a1 c1 (by omega) (by omega)
  have h2 := Int.mul_le_mul a2 c2 (by omega) (by omega)
  omega
theorem lat_spec (a b c : Int) : wH.f a b c = some (latB a b c) := by
  unfold wH.f latB
  rw [in_spec, Option.bind_some]
  refine ite_some_of _ _ _ (fun h => ?_)
  rw [in_spec, Option.bind_some]
  refine ite_some_of _ _ _ (fun h' => ?_)
  rw [inB_iff] at h h'
  have := mul_in h.1 h.2 h'.1 h'.2
  rw [w64 (x := a - 1) (by omega) (by omega), in_spec, Option.bind_some, w64 (x := a * c) (by omega) (by omega)]
  exact ite_some _ _
theorem index_impl {a b c : Int} (h1 : -9223372036854775808 ≤ a * c) (h2 : a * c ≤ 9223372036854775807) : xM.f a b c = some (a * c) := by
  unfold xM.f
  rw [w64 h1 h2]
theorem lat_impl (a b c : Int) : wD.f a b c = some (latB a b c) := by
  unfold wD.f latB
  rw [in_impl, Option.bind_some]
  refine ite_some_of _ _ _ (fun h => ?_)
  rw [in_impl, Option.bind_some]
  refine ite_some_of _ _ _ (fun h' => ?_)
  rw [inB_iff] at h h'
  have := mul_in h.1 h.2 h'.1 h'.2
  rw [w64 (x := a - 1) (by omega) (by omega), in_impl, Option.bind_some, index_impl (by omega) (by omega), Option.bind_some]
  exact ite_some _ _
theorem fr_spec (f : Int) : wQ.f f = some (frB f) := by
  unfold wQ.f frB inB
  by_cases h : f = 0
  · subst h; rfl
  · rw [if_neg h]
    congr 1
    rw [Bool.eq_iff_iff]
    simp
    omega
theorem fr_impl (f : Int) : wO.f f = some (frB f) := by
  unfold wO.f frB
  rw [in_impl]; rfl
def patB (f a b c : Int) (l : List Int) : Bool := (frB f && latB a b c) && (decide ((l.length : Int) = a * c) && l.all (inB 0 9))
theorem all_impl (l : List Int) (lo hi : Int) : wE.f l lo hi = some (l.all (inB lo hi)) := rfl
theorem code_spec (f a b c : Int) : wL.f f a b c = some (if frB f && latB a b c then 0 else 1) := by
  unfold wL.f
  rw [fr_spec, Option.bind_some]
  cases frB f with
  | false => rfl
  | true =>
    rw [if_pos rfl, lat_spec, Option.bind_some]
    cases latB a b c <;> rfl
theorem within_all (l : List Int) (lo hi most : Int) (hl : l.length ≤ 9223372036854775807) : yY.fv l most lo hi = some (l.all (inB lo hi) && decide ((l.length : Int) ≤ most)) := by
  rw [within_spec l lo hi most hl]
  congr 1
  rw [Bool.eq_iff_iff]
  simp [inB]
theorem lat_prod {a b c : Int} (h : latB a b c = true) : 1 ≤ a * c ∧ a * c ≤ 64 := by
  rw [latB_iff] at h
  have := mul_in h.1.1 h.1.2 h.2.1.1 h.2.1.2
  omega
theorem pat_spec (f a b c : Int) (l : List Int) (hl : l.length ≤ 9223372036854775807) : xN.fv f a b c l = some (patB f a b c l) := by
  rw [xN.fv_eq, code_spec, Option.bind_some]
  unfold patB
  cases hb : frB f && latB a b c with
  | false => rfl
  | true =>
    rw [Bool.and_eq_true] at hb
    have hp := lat_prod hb.2
    simp only [if_true, Bool.true_and]
    rw [w64 (by omega) (by omega)]
    by_cases e : (l.length : Int) = a * c
    · rw [if_pos e, within_all l 0 9 64 hl, Option.bind_some]
      simp only [decide_eq_true e, Bool.true_and, show (l.length : Int) ≤ 64 by omega, decide_true, Bool.and_true]
    · rw [if_neg e]
      simp [e]
theorem pat_impl (f a b c : Int) (l : List Int) : xQ.f f a b c l = some (patB f a b c l) := by
  unfold xQ.f patB
  rw [fr_impl, Option.bind_some]
  cases frB f with
  | false => rfl
  | true =>
    rw [if_pos rfl, lat_impl, Option.bind_some]
    cases hb : latB a b c with
    | false => rfl
    | true =>
      have hp := lat_prod hb
      rw [if_pos rfl, index_impl (by omega) (by omega), Option.bind_some, all_impl]
      by_cases e : (l.length : Int) = a * c
      · rw [if_pos e]; simp [e]
      · rw [if_neg e]; simp [e]
structure PV (f a b c : Int) (l : List Int) : Prop where
  fr : frB f = true
  lat : latB a b c = true
  len : (l.length : Int) = a * c
  cols : ∀ x ∈ l, 0 ≤ x ∧ x ≤ 9
theorem pv_of {f a b c : Int} {l : List Int} (h : patB f a b c l = true) : PV f a b c l := by
  unfold patB at h
  simp only [Bool.and_eq_true, List.all_eq_true, inB_iff, decide_eq_true_iff] at h
  exact ⟨h.1.1, h.1.2, h.2.1, h.2.2⟩
theorem PV.l64 {f a b c : Int} {l : List Int} (v : PV f a b c l) : 1 ≤ l.length ∧ l.length ≤ 64 := by
  have := lat_prod v.lat
  have := v.len
  omega
theorem szPattern_v (f a b c : Int) (l : List Int) (hl : l.length ≤ maxLen) : wM.f f a b c l 1048576 = some (if (l.length : Int) ≤ 1048576 then 1048576 - (l.length : Int) else -1) := by
  unfold wM.f
  rw [szInts l 1048576 (by omega) (by omega) hl, Option.bind_some]
  by_cases hs : (l.length : Int) ≤ 1048576
  · rw [if_pos hs, if_neg (by omega)]
  · rw [if_neg hs, if_pos (by omega)]
theorem toPattern_v (f a b c : Int) (l : List Int) (hl : l.length ≤ 35184372088832) : yZ.fv f a b c l = some (f, a, b, c, l) := by
  rw [yZ.fv_eq, toInts l hl]; rfl
theorem eqLattice_v (a b c : Int) : wF.f a b c a b c = some true := by unfold wF.f; simp
theorem eqPattern_v (f a b c : Int) (l : List Int) (hl : l.length ≤ 4611686018427387904) : xJ.fv f a b c l f a b c l = some true := by
  rw [xJ.fv_eq, if_pos rfl, eqLattice_v, Option.bind_some, if_pos rfl, eqInts l l hl]; simp
structure LV (a b c : Int) : Prop where
  a1 : 1 ≤ a
  a64 : a ≤ 64
  c1 : 1 ≤ c
  c64 : c ≤ 64
  b0 : 0 ≤ b
  ba : b ≤ a - 1
  ac : a * c ≤ 64
theorem lv_of {a b c : Int} (h : latB a b c = true) : LV a b c := by
  rw [latB_iff] at h
  exact ⟨h.1.1, h.1.2, h.2.1.1, h.2.1.2, h.2.2.1.1, h.2.2.1.2, h.2.2.2⟩
/-- Cell number i. -/
def cellV (c i : Nat) : S50 := ⟨((i / c : Nat) : Int), ((i % c : Nat) : Int)⟩
def cellsL (c n : Nat) : List S50 := (List.range n).map (cellV c)
theorem cellsL_len (c n : Nat) : (cellsL c n).length = n := by simp [cellsL]
theorem cellsL_get (c n i : Nat) (h : i < n) : rd_T50 (cellsL c n) (i : Int) = cellV c i := by
  unfold rd_T50
  rw [Int.toNat_natCast, List.getD_eq_getElem?_getD]
  simp [cellsL, h]
theorem cellV_at (c x y : Nat) (hy : y < c) : cellV c (x * c + y) = ⟨(x : Int), (y : Int)⟩ := by
  unfold cellV
  rw [Nat.add_comm, Nat.add_mul_div_right _ _ (by omega), Nat.div_eq_of_lt hy, Nat.zero_add, Nat.add_mul_mod_self_right, Nat.mod_eq_of_lt hy]
theorem cellsL_succ (c n : Nat) : cellsL c (n + 1) = cellsL c n ++ [cellV c n] := by simp [cellsL, List.range_succ]
theorem cells_spec (a b c : Nat) (ha : a ≤ 64) (hc : 1 ≤ c) (hc' : c ≤ 64) : yO.fv (a : Int) (b : Int) (c : Int) = some (cellsL c (a * c)) := by
  rw [yO.fv_eq]
  have go : ∀ (d x y : Nat), y < c → x < a → x * c + y + d = a * c → yO.l1v (cellsL c (x * c + y)) (x : Int) (y : Int) (a : Int) (b : Int) (c : Int) = some (cellsL c (a * c)) := by
    intro d
    induction d with
    | zero =>
      intro x y hy hx hd
      have := Nat.mul_le_mul_right c (show x + 1 ≤ a by omega)
      rw [Nat.succ_mul] at this
      omega
    | succ d ih =>
      intro x y hy hx hd
      have h4 := Nat.mul_le_mul ha hc'
      rw [yO.l1v_eq, if_pos (by omega), if_pos (by rw [cellsL_len]; omega), w64 (by omega) (by omega)]
      have e : cellsL c (x * c + y) ++ [(⟨(x : Int), (y : Int)⟩ : S50)] = cellsL c (x * c + (y + 1)) := by rw [← cellV_at c x y hy, ← cellsL_succ]; rfl
      rw [e]
      by_cases hs : y + 1 < c
      · exact ih x (y + 1) hs hx (by omega)
      · obtain rfl : c = y + 1 := by omega
        rw [yO.l1v_eq, if_neg (by omega), yO.l0v_eq, w64 (by omega) (by omega)]
        have e2 : x * (y + 1) + (y + 1) = (x + 1) * (y + 1) := (Nat.succ_mul x (y + 1)).symm
        rw [e2]
        by_cases hx' : x + 1 < a
        · rw [if_pos (by omega)]
          have := ih (x + 1) 0 (by omega) hx' (by omega)
          simpa using this
        · obtain rfl : a = x + 1 := by omega
          rw [if_neg (by omega)]
  rcases Nat.eq_zero_or_pos a with rfl | h
  · rw [yO.l0v_eq, if_neg (by omega)]; simp [cellsL]
  · rw [yO.l0v_eq, if_pos (by omega)]
    have := go (a * c) 0 0 hc h (by omega)
    simpa [cellsL] using this
theorem cells_impl (a b c : Nat) (ha : a ≤ 64) (hc : 1 ≤ c) (hc' : c ≤ 64) : yG.fv (a : Int) (b : Int) (c : Int) = some (cellsL c (a * c)) := by
  rw [yG.fv_eq]
  have go : ∀ (d x y : Nat), y < c → x < a → x * c + y + d = a * c → yG.l1v (cellsL c (x * c + y)) (x : Int) (a : Int) (x : Int) (c : Int) (y : Int) (a : Int) (b : Int) (c : Int) = some (cellsL c (a * c)) := by
    intro d
    induction d with
    | zero =>
      intro x y hy hx hd
      have := Nat.mul_le_mul_right c (show x + 1 ≤ a by omega)
      rw [Nat.succ_mul] at this
      omega
    | succ d ih =>
      intro x y hy hx hd
      have h4 := Nat.mul_le_mul ha hc'
      rw [yG.l1v_eq, if_pos (by omega), if_pos (by rw [cellsL_len]; omega), w64 (by omega) (by omega)]
      have e : cellsL c (x * c + y) ++ [(⟨(x : Int), (y : Int)⟩ : S50)] = cellsL c (x * c + (y + 1)) := by rw [← cellV_at c x y hy, ← cellsL_succ]; rfl
      rw [e]
      by_cases hs : y + 1 < c
      · exact ih x (y + 1) hs hx (by omega)
      · obtain rfl : c = y + 1 := by omega
        rw [yG.l1v_eq, if_neg (by omega), yG.l0v_eq, w64 (by omega) (by omega)]
        have e2 : x * (y + 1) + (y + 1) = (x + 1) * (y + 1) := (Nat.succ_mul x (y + 1)).symm
        rw [e2]
        by_cases hx' : x + 1 < a
        · rw [if_pos (by omega)]
          have := ih (x + 1) 0 (by omega) hx' (by omega)
          simpa using this
        · obtain rfl : a = x + 1 := by omega
          rw [if_neg (by omega)]
  rcases Nat.eq_zero_or_pos a with rfl | h
  · rw [yG.l0v_eq, if_neg (by omega)]; simp [cellsL]
  · rw [yG.l0v_eq, if_pos (by omega)]
    have := go (a * c) 0 0 hc h (by omega)
    simpa [cellsL] using this
/-- The cell to which a vector is reduced. -/
def redX (a b c x y : Int) : Int := (x - (y / c) * b) % a
def redY (c y : Int) : Int := y % c
theorem tdiv_exact {c y : Int} (hc : 0 < c) : Int.tdiv (y - y % c) c = y / c := by
  have h := Int.emod_add_mul_ediv y c
  rw [show y - y % c = c * (y / c) by omega, Int.mul_tdiv_cancel_left _ (by omega)]
theorem div_bound {c y : Int} (hc : 1 ≤ c) (hy : -1000000 ≤ y) (hy' : y ≤ 1000000) : -1000000 ≤ y / c ∧ y / c ≤ 1000000 := by
  constructor
  · rw [Int.le_ediv_iff_mul_le (by omega)]
    omega
  · have h1 : y / c < 1000001 := by
      rw [Int.ediv_lt_iff_lt_mul (by omega)]
      omega
    omega
theorem mul_bound {q b : Int} (h : -1000000 ≤ q) (h' : q ≤ 1000000) (b0 : 0 ≤ b) (b64 : b ≤ 64) : -64000000 ≤ q * b ∧ q * b ≤ 64000000 := by
  have h1 := Int.mul_le_mul_of_nonneg_right h b0
  have h2 := Int.mul_le_mul_of_nonneg_right h' b0
  omega
theorem reduce_core {a b c x y : Int} (v : LV a b c) (hx : -1000000 ≤ x) (hx' : x ≤ 1000000) (hy : -1000000 ≤ y) (hy' : y ≤ 1000000) :
    wrap64 (x - wrap64 (wrap64 (Int.tdiv (wrap64 (y - y % c)) c) * b)) = x - (y / c) * b := by
  have c1 := v.c1
  have ba := v.ba
  have a64 := v.a64
  have h0 := Int.emod_nonneg y (show c ≠ 0 by omega)
  have h1 := Int.emod_lt_of_pos y (show 0 < c by omega)
  have c64 := v.c64
  have d := div_bound c1 hy hy'
  have m := mul_bound d.1 d.2 v.b0 (by omega)
  rw [w64 (x := y - y % c) (by omega) (by omega), tdiv_exact (by omega), w64 (x := y / c) (by omega) (by omega), w64 (x := y / c * b) (by omega) (by omega), w64 (by omega) (by omega)]
theorem reduce_spec {a b c x y : Int} (v : LV a b c) (hx : -1000000 ≤ x) (hx' : x ≤ 1000000) (hy : -1000000 ≤ y) (hy' : y ≤ 1000000) : wJ.f a b c x y = some (redX a b c x y, redY c y) := by
  have c1 := v.c1
  have a1 := v.a1
  have c64 := v.c64
  have a64 := v.a64
  unfold wJ.f
  rw [mod_spec (by omega) (by omega), Option.bind_some, if_neg (by omega), reduce_core v hx hx' hy hy', mod_spec (by omega) (by omega)]
  rfl
theorem reduce_impl {a b c x y : Int} (v : LV a b c) (hx : -1000000 ≤ x) (hx' : x ≤ 1000000) (hy : -1000000 ≤ y) (hy' : y ≤ 1000000) : xO.f a b c x y = some (redX a b c x y, redY c y) := by
  have c1 := v.c1
  have a1 := v.a1
  have c64 := v.c64
  have a64 := v.a64
  unfold xO.f
  rw [mod_impl (by omega) (by omega), Option.bind_some, if_neg (by omega), reduce_core v hx hx' hy hy', mod_impl (by omega) (by omega)]
  rfl
/-- Its number. -/
def numL (a b c x y : Int) : Int := redX a b c x y * c + redY c y
theorem red_in {a b c : Int} (v : LV a b c) (x y : Int) : 0 ≤ redX a b c x y ∧ redX a b c x y < a ∧ 0 ≤ redY c y ∧ redY c y < c := by
  have c1 := v.c1
  have a1 := v.a1
  exact ⟨Int.emod_nonneg _ (by omega), Int.emod_lt_of_pos _ (by omega), Int.emod_nonneg _ (by omega), Int.emod_lt_of_pos _ (by omega)⟩
theorem num_in {a b c : Int} (v : LV a b c) (x y : Int) : 0 ≤ numL a b c x y ∧ numL a b c x y < a * c ∧ 0 ≤ redX a b c x y * c := by
  have h := red_in v x y
  have c1 := v.c1
  unfold numL
  have h1 := Int.mul_nonneg h.1 (show 0 ≤ c by omega)
  have h2 := Int.mul_le_mul_of_nonneg_right (show redX a b c x y ≤ a - 1 by omega) (show 0 ≤ c by omega)
  rw [Int.sub_mul] at h2
  omega
theorem number_spec {a b c x y : Int} (v : LV a b c) (hx : -1000000 ≤ x) (hx' : x ≤ 1000000) (hy : -1000000 ≤ y) (hy' : y ≤ 1000000) : wT.f a b c x y = some (numL a b c x y) := by
  have h := num_in v x y
  have h2 := red_in v x y
  have ac := v.ac
  have c64 := v.c64
  unfold wT.f
  rw [reduce_spec v hx hx' hy hy', Option.bind_some]
  simp only []
  unfold numL at h ⊢
  rw [w64 (x := redX a b c x y * c) (by omega) (by omega), w64 (by omega) (by omega)]
theorem number_impl {a b c x y : Int} (v : LV a b c) : wB.f a b c (redX a b c x y) (redY c y) = some (numL a b c x y) := by
  have h := num_in v x y
  have h2 := red_in v x y
  have ac := v.ac
  have c64 := v.c64
  unfold wB.f
  unfold numL at h ⊢
  rw [w64 (x := redX a b c x y * c) (by omega) (by omega), w64 (by omega) (by omega)]
/-- A reduced vector and another: as if it hadn't been reduced. -/
theorem red_add {a b c : Int} (v : LV a b c) (x y u w : Int) : redX a b c (redX a b c x y + u) (redY c y + w) = redX a b c (x + u) (y + w) ∧ redY c (redY c y + w) = redY c (y + w) := by
  have c1 := v.c1
  unfold redX redY
  have e1 := Int.emod_add_mul_ediv y c
  have hq : (y % c + w) / c = (y + w) / c - y / c := by
    rw [show y % c + w = (y + w) + c * (-(y / c)) by rw [Int.mul_neg]; omega, Int.add_mul_ediv_left _ _ (by omega)]; omega
  constructor
  · rw [hq, Int.sub_mul]
    rw [show (x - y / c * b) % a + u - ((y + w) / c * b - y / c * b) = (x - y / c * b) % a + (u - ((y + w) / c * b - y / c * b)) by omega, Int.emod_add_emod]
    congr 1
    omega
  · rw [Int.emod_add_emod]
/-- A cell is reduced. -/
theorem red_cell {a b c x y : Int} (x0 : 0 ≤ x) (xa : x < a) (y0 : 0 ≤ y) (yc : y < c) : redX a b c x y = x ∧ redY c y = y := by
  unfold redX redY
  rw [Int.ediv_eq_zero_of_lt y0 yc]
  refine ⟨?_, Int.emod_eq_of_lt y0 yc⟩
  rw [show x - 0 * b = x by omega]
  exact Int.emod_eq_of_lt x0 xa
/-- The cell with a number. -/
theorem cell_num {a b c : Int} (v : LV a b c) (n : Nat) (hn : (n : Int) < a * c) : ∃ x y : Int, cellV c.toNat n = ⟨x, y⟩ ∧ 0 ≤ x ∧ x < a ∧ 0 ≤ y ∧ y < c ∧ x * c + y = n := by
  have c1 := v.c1
  obtain ⟨k, rfl⟩ : ∃ k : Nat, c = (k : Int) := ⟨c.toNat, by omega⟩
  refine ⟨((n / k : Nat) : Int), ((n % k : Nat) : Int), rfl, Int.natCast_nonneg _, ?_, Int.natCast_nonneg _, ?_, ?_⟩
  · rw [Int.natCast_ediv]
    exact Int.ediv_lt_of_lt_mul (by omega) hn
  · have := Nat.mod_lt n (show 0 < k by omega)
    omega
  · have := Nat.div_add_mod n k
    rw [← Int.natCast_mul, ← Int.natCast_add, Nat.mul_comm]
    omega
theorem num_inj {c x y x' y' : Int} (y0 : 0 ≤ y) (yc : y < c) (y0' : 0 ≤ y') (yc' : y' < c) (h : x * c + y = x' * c + y') : x = x' ∧ y = y' := by
  have h1 : y % c = y' % c := by
    have a : (x * c + y) % c = y % c := by rw [Int.add_comm, Int.add_mul_emod_self_right]
    have b : (x' * c + y') % c = y' % c := by rw [Int.add_comm, Int.add_mul_emod_self_right]
    rw [← a, ← b, h]
  rw [Int.emod_eq_of_lt y0 yc, Int.emod_eq_of_lt y0' yc'] at h1
  subst h1
  have h2 : x * c = x' * c := by omega
  exact ⟨Int.eq_of_mul_eq_mul_right (by omega) h2, rfl⟩
theorem gcd_step (a b : Int) : Int.gcd b (Int.tmod a b) = Int.gcd a b := by
  unfold Int.gcd
  rw [Int.natAbs_tmod, Nat.gcd_comm b.natAbs, ← Nat.gcd_rec, Nat.gcd_comm]
theorem tmod_lt {a b : Int} (h : b ≠ 0) : (Int.tmod a b).natAbs < b.natAbs := by
  rw [Int.natAbs_tmod]
  exact Nat.mod_lt _ (by omega)
theorem mx_abs {a : Int} (h : a.natAbs ≤ 4611686018427387904) : mx a (wrap64 (-a)) = (Int.gcd a 0 : Int) := by
  rw [w64 (by omega) (by omega)]
  unfold mx
  rw [Int.gcd_zero_right]
  split <;> omega
theorem gcd_spec : ∀ (n : Nat) (a b : Int), b.natAbs ≤ n → a.natAbs ≤ 4611686018427387904 → b.natAbs ≤ 4611686018427387904 → xG.fv a b = some (Int.gcd a b : Int) := by
  intro n
  induction n with
  | zero =>
    intro a b hb h1 h2
    obtain rfl : b = 0 := by omega
    rw [xG.fv_eq, if_pos rfl, mx_abs h1]
  | succ n ih =>
    intro a b hb h1 h2
    by_cases e : b = 0
    · subst e
      rw [xG.fv_eq, if_pos rfl, mx_abs h1]
    · have := tmod_lt (a := a) e
      rw [xG.fv_eq, if_neg e, ih b _ (by omega) h2 (by omega), gcd_step, Option.bind_some]
theorem gcd_impl : ∀ (n : Nat) (a b : Int), b.natAbs ≤ n → a.natAbs ≤ 4611686018427387904 → b.natAbs ≤ 4611686018427387904 → xL.l0v a b = some (Int.gcd a b : Int) := by
  intro n
  induction n with
  | zero =>
    intro a b hb h1 h2
    obtain rfl : b = 0 := by omega
    rw [xL.l0v_eq, if_pos rfl, mx_abs h1]
  | succ n ih =>
    intro a b hb h1 h2
    by_cases e : b = 0
    · subst e
      rw [xL.l0v_eq, if_pos rfl, mx_abs h1]
    · have := tmod_lt (a := a) e
      rw [xL.l0v_eq, if_neg e, ih b _ (by omega) h2 (by omega), gcd_step]
theorem gcd_cong {a b b' : Int} (h : a ∣ b - b') : Int.gcd a b = Int.gcd a b' := by
  have one : ∀ {x y : Int}, a ∣ x - y → (Int.gcd a x : Int) ∣ (Int.gcd a y : Int) := by
    intro x y hd
    apply Int.dvd_coe_gcd (Int.gcd_dvd_left ..)
    have h1 : (Int.gcd a x : Int) ∣ x - y := Int.dvd_trans (Int.gcd_dvd_left ..) hd
    have h2 := Int.dvd_sub (Int.gcd_dvd_right (a := a) (b := x)) h1
    rwa [show x - (x - y) = y by omega] at h2
  apply Nat.dvd_antisymm
  · exact Int.ofNat_dvd.1 (one h)
  · apply Int.ofNat_dvd.1
    apply one
    obtain ⟨k, hk⟩ := h
    exact ⟨-k, by rw [Int.mul_neg, ← hk]; omega⟩
/-- One vector taken in: Euclid's way on the rows, the columns along with it. -/
def eu : Nat → Int → Int → Int → Int → Int × Int × Int
  | 0, px, py, vx, _ => (px, py, vx)
  | n + 1, px, py, vx, vy => if vy = 0 then (px, py, vx) else eu n vx vy (px - py / vy * vx) (py % vy)
theorem eu_zero (n : Nat) (px py vx : Int) : eu n px py vx 0 = (px, py, vx) := by
  cases n with
  | zero => rfl
  | succ n => simp [eu]
theorem eu_succ {n : Nat} {px py vx vy : Int} (h : vy ≠ 0) : eu (n + 1) px py vx vy = eu n vx vy (px - py / vy * vx) (py % vy) := by
  rw [eu, if_neg h]
theorem eu_inv {α β k r vy py : Int} (h : vy * k + r = py) : β * r + (α + k * β) * vy = α * vy + β * py := by
  subst h
  rw [Int.add_mul, Int.mul_add]
  have e1 : k * β * vy = β * (vy * k) := by rw [Int.mul_comm k β, Int.mul_assoc, Int.mul_comm k vy]
  omega
structure EB (α β D px py vx vy : Int) : Prop where
  p0 : -α ≤ px
  p1 : px ≤ α
  v0 : -β ≤ vx
  v1 : vx ≤ β
  py0 : 0 ≤ py
  py1 : py ≤ 64
  vy0 : 0 ≤ vy
  vy1 : vy ≤ 64
  d : α * vy + β * py ≤ D
  D1 : D ≤ 1152921504606846976
theorem EB.next {α β D px py vx vy : Int} (h : EB α β D px py vx vy) (hv : vy ≠ 0) :
    EB β (α + py / vy * β) D vx vy (px - py / vy * vx) (py % vy) ∧ 0 ≤ py / vy ∧ py / vy ≤ 64 ∧ -D ≤ py / vy * vx ∧ py / vy * vx ≤ D ∧ -D ≤ px ∧ px ≤ D ∧ py / vy * vy + py % vy = py ∧ py % vy < vy ∧ 0 ≤ py / vy * vy := by
  obtain ⟨p0, p1, v0, v1, py0, py1, vy0, vy1, d, D1⟩ := h
  have k0 : 0 ≤ py / vy := Int.ediv_nonneg py0 vy0
  have e := Int.mul_ediv_add_emod py vy
  have r0 := Int.emod_nonneg py hv
  have r1 := Int.emod_lt_of_pos py (show 0 < vy by omega)
  have kle : py / vy ≤ py := Int.ediv_le_self _ py0
  have inv := eu_inv (α := α) (β := β) e
  have a0 : 0 ≤ α := by omega
  have b0 : 0 ≤ β := by omega
  have kb0 : 0 ≤ py / vy * β := Int.mul_nonneg k0 b0
  have kb1 : py / vy * β ≤ β * py := by
    rw [Int.mul_comm]
    exact Int.mul_le_mul_of_nonneg_left kle b0
  have av0 : α * 1 ≤ α * vy := Int.mul_le_mul_of_nonneg_left (by omega) a0
  have bp0 : 0 ≤ β * py := Int.mul_nonneg b0 py0
  have x1 : py / vy * vx ≤ py / vy * β := Int.mul_le_mul_of_nonneg_left v1 k0
  have x0 : py / vy * (-β) ≤ py / vy * vx := Int.mul_le_mul_of_nonneg_left v0 k0
  rw [Int.mul_neg] at x0
  have kv0 : 0 ≤ py / vy * vy := Int.mul_nonneg k0 vy0
  have kc : vy * (py / vy) = py / vy * vy := Int.mul_comm ..
  exact ⟨⟨v0, v1, by omega, by omega, vy0, vy1, r0, by omega, by omega, D1⟩, k0, by omega, by omega, by omega, by omega, by omega, by omega, r1, kv0⟩
theorem eu_spec (L : List S50) (low i : Int) : ∀ (n : Nat) (α β D px py vx vy : Int), EB α β D px py vx vy → vy ≤ n →
    yJ.l1v L low i px py vx vy = yJ.l1v L low i (eu n px py vx vy).1 (eu n px py vx vy).2.1 (eu n px py vx vy).2.2 0 := by
  intro n
  induction n with
  | zero =>
    intro α β D px py vx vy h hn
    obtain rfl : vy = 0 := by have := h.vy0; omega
    rw [eu_zero]
  | succ n ih =>
    intro α β D px py vx vy h hn
    by_cases e : vy = 0
    · subst e; rw [eu_zero]
    · obtain ⟨h', k0, k1, x0, x1, y0, y1, hd, hr, hk⟩ := h.next e
      have D1 := h.D1
      have p0 := h.py0
      have p1 := h.py1
      have r0 := h'.vy0
      rw [eu_succ e, ← ih _ _ _ _ _ _ _ h' (by omega), yJ.l1v_eq, if_neg e, Int.tdiv_eq_ediv_of_nonneg h.py0]
      rw [w64 (x := py / vy) (by omega) (by omega), w64 (x := py / vy * vx) (by omega) (by omega), w64 (x := py / vy * vy) (by omega) (by omega), w64 (x := px - py / vy * vx) (by omega) (by omega), w64 (x := py - py / vy * vy) (by omega) (by omega)]
      rw [show py - py / vy * vy = py % vy by omega]
theorem eu_impl (L : List S50) (low len i : Int) : ∀ (n : Nat) (α β D px py vx vy : Int), EB α β D px py vx vy → vy ≤ n →
    yI.l1v low L len i px py vx vy = yI.l1v low L len i (eu n px py vx vy).1 (eu n px py vx vy).2.1 (eu n px py vx vy).2.2 0 := by
  intro n
  induction n with
  | zero =>
    intro α β D px py vx vy h hn
    obtain rfl : vy = 0 := by have := h.vy0; omega
    rw [eu_zero]
  | succ n ih =>
    intro α β D px py vx vy h hn
    by_cases e : vy = 0
    · subst e; rw [eu_zero]
    · obtain ⟨h', k0, k1, x0, x1, y0, y1, hd, hr, hk⟩ := h.next e
      have D1 := h.D1
      have p0 := h.py0
      have p1 := h.py1
      have r0 := h'.vy0
      rw [eu_succ e, ← ih _ _ _ _ _ _ _ h' (by omega), yI.l1v_eq, if_neg e, Int.tdiv_eq_ediv_of_nonneg h.py0]
      unfold wI.f xX.f
      simp only [Option.bind_some]
      rw [w64 (x := py / vy) (by omega) (by omega), w64 (x := -(py / vy)) (by omega) (by omega), Int.neg_mul, Int.neg_mul, w64 (x := -(py / vy * vx)) (by omega) (by omega), w64 (x := -(py / vy * vy)) (by omega) (by omega), w64 (x := px + -(py / vy * vx)) (by omega) (by omega), w64 (x := py + -(py / vy * vy)) (by omega) (by omega)]
      rw [show py + -(py / vy * vy) = py % vy by omega, show px + -(py / vy * vx) = px - py / vy * vx by omega]
theorem eu_row : ∀ (n : Nat) (px qx py vx wx vy : Int), (eu n px py vx vy).2.1 = (eu n qx py wx vy).2.1 := by
  intro n
  induction n with
  | zero => intros; rfl
  | succ n ih =>
    intro px qx py vx wx vy
    by_cases e : vy = 0
    · subst e; rw [eu_zero, eu_zero]
    · rw [eu_succ e, eu_succ e]; exact ih ..
theorem eu_g : ∀ (n : Nat) (px py vx vy : Int), 0 ≤ vy → vy ≤ n → 1 ≤ py → 1 ≤ (eu n px py vx vy).2.1 ∧ (eu n px py vx vy).2.1 ∣ py ∧ (eu n px py vx vy).2.1 ∣ vy := by
  intro n
  induction n with
  | zero =>
    intro px py vx vy h0 hn hp
    obtain rfl : vy = 0 := by omega
    rw [eu_zero]
    exact ⟨hp, Int.dvd_refl _, Int.dvd_zero _⟩
  | succ n ih =>
    intro px py vx vy h0 hn hp
    by_cases e : vy = 0
    · subst e; rw [eu_zero]; exact ⟨hp, Int.dvd_refl _, Int.dvd_zero _⟩
    · have r0 := Int.emod_nonneg py e
      have r1 := Int.emod_lt_of_pos py (show 0 < vy by omega)
      rw [eu_succ e]
      obtain ⟨a, b, c⟩ := ih vx vy (px - py / vy * vx) (py % vy) r0 (by omega) (by omega)
      refine ⟨a, ?_, b⟩
      have e1 := Int.mul_ediv_add_emod py vy
      have h2 : (eu n vx vy (px - py / vy * vx) (py % vy)).2.1 ∣ vy * (py / vy) + py % vy := Int.dvd_add (Int.dvd_mul_of_dvd_left b) c
      rwa [e1] at h2
theorem eu_mod (m : Int) : ∀ (n : Nat) (px qx py vx wx vy : Int), m ∣ px - qx → m ∣ vx - wx → m ∣ (eu n px py vx vy).1 - (eu n qx py wx vy).1 ∧ m ∣ (eu n px py vx vy).2.2 - (eu n qx py wx vy).2.2 := by
  intro n
  induction n with
  | zero => intro px qx py vx wx vy h1 h2; exact ⟨h1, h2⟩
  | succ n ih =>
    intro px qx py vx wx vy h1 h2
    by_cases e : vy = 0
    · subst e; rw [eu_zero, eu_zero]; exact ⟨h1, h2⟩
    · rw [eu_succ e, eu_succ e]
      refine ih _ _ _ _ _ _ h2 ?_
      have e1 : px - py / vy * vx - (qx - py / vy * wx) = (px - qx) - py / vy * (vx - wx) := by rw [Int.mul_sub]; omega
      rw [e1]
      exact Int.dvd_sub h1 (Int.dvd_mul_of_dvd_right h2)
theorem eu_bound : ∀ (n : Nat) (α β D px py vx vy : Int), EB α β D px py vx vy → vy ≤ n → 1 ≤ py → α ≤ D → β ≤ D → (-D ≤ (eu n px py vx vy).1 ∧ (eu n px py vx vy).1 ≤ D) ∧ -D ≤ (eu n px py vx vy).2.2 ∧ (eu n px py vx vy).2.2 ≤ D := by
  intro n
  induction n with
  | zero =>
    intro α β D px py vx vy h hn hp ha hb
    have := h.p0; have := h.p1; have := h.v0; have := h.v1
    exact ⟨⟨by show -D ≤ px; omega, by show px ≤ D; omega⟩, by show -D ≤ vx; omega, by show vx ≤ D; omega⟩
  | succ n ih =>
    intro α β D px py vx vy h hn hp ha hb
    by_cases e : vy = 0
    · subst e
      have := h.p0; have := h.p1; have := h.v0; have := h.v1
      rw [eu_zero]
      exact ⟨⟨by show -D ≤ px; omega, by show px ≤ D; omega⟩, by show -D ≤ vx; omega, by show vx ≤ D; omega⟩
    · obtain ⟨h', k0, k1, x0, x1, y0, y1, hd, hr, hk⟩ := h.next e
      have v0 := h.vy0
      rw [eu_succ e]
      refine ih _ _ _ _ _ _ _ h' (by omega) (by omega) hb ?_
      have d := h'.d
      have b0 : 0 ≤ β := by have := h.v0; have := h.v1; omega
      have a0 : 0 ≤ α := by have := h.p0; have := h.p1; omega
      have n0 : 0 ≤ α + py / vy * β := by have := Int.mul_nonneg k0 b0; omega
      have n1 : (α + py / vy * β) * 1 ≤ (α + py / vy * β) * vy := Int.mul_le_mul_of_nonneg_left (by omega) n0
      have n2 := Int.mul_nonneg b0 h'.vy0
      omega
theorem eu_dvd : ∀ (n : Nat) (B px py vx vy : Int), 0 ≤ vy → vy ≤ n → 1 ≤ py → py ∣ vy → -B ≤ px → px ≤ B → -B ≤ vx → vx ≤ B → -B ≤ (eu n px py vx vy).1 ∧ (eu n px py vx vy).1 ≤ B := by
  intro n B px py vx vy h0 hn hp hd p0 p1 v0 v1
  by_cases e : vy = 0
  · subst e; rw [eu_zero]; exact ⟨p0, p1⟩
  · have hle : py ≤ vy := Int.le_of_dvd (by omega) hd
    obtain ⟨n, rfl⟩ : ∃ m, n = m + 1 := ⟨n - 1, by omega⟩
    rw [eu_succ e]
    by_cases q : py = vy
    · subst q
      rw [Int.emod_self, eu_zero]
      exact ⟨v0, v1⟩
    · rw [Int.ediv_eq_zero_of_lt (by omega) (by omega), Int.emod_eq_of_lt (by omega) (by omega), Int.zero_mul, Int.sub_zero]
      obtain ⟨n, rfl⟩ : ∃ m, n = m + 1 := ⟨n - 1, by omega⟩
      rw [eu_succ (by omega), Int.emod_eq_zero_of_dvd hd, eu_zero]
      exact ⟨p0, p1⟩
/-- How great a column may have grown while the row is at least this. -/
def MX (y : Int) : Int := if 33 ≤ y then 128 else if 17 ≤ y then 16384 else if 9 ≤ y then 2097152 else if 5 ≤ y then 268435456 else if 3 ≤ y then 34359738368 else if 2 ≤ y then 4398046511104 else 562949953421312
theorem MX_le (y : Int) : 128 ≤ MX y ∧ MX y ≤ 562949953421312 := by
  unfold MX
  repeat' split
  all_goals omega
theorem MX_anti {g y : Int} (h : g ≤ y) : MX y ≤ MX g := by
  unfold MX
  repeat' split
  all_goals omega
theorem MX_half {g y : Int} (h0 : 1 ≤ g) (h : 2 * g ≤ y) (hy : y ≤ 64) : 128 * MX y ≤ MX g := by
  unfold MX
  repeat' split
  all_goals omega
theorem half_of {g y : Int} (h0 : 1 ≤ g) (hy : 1 ≤ y) (hd : g ∣ y) (hn : g ≠ y) : 2 * g ≤ y := by
  obtain ⟨t, rfl⟩ := hd
  have t1 : 1 ≤ t := by
    rcases Int.lt_or_le 0 t with h | h
    · omega
    · have := Int.mul_nonneg (show 0 ≤ g by omega) (show 0 ≤ -t by omega)
      rw [Int.mul_neg] at this
      omega
  by_cases t2 : t = 1
  · subst t2; omega
  · have := Int.mul_le_mul_of_nonneg_left (show 2 ≤ t by omega) (show 0 ≤ g by omega)
    omega
structure HI (a0 c0 low px qx py : Int) : Prop where
  l1 : 1 ≤ low
  la : low ∣ a0
  y1 : 1 ≤ py
  yc : py ∣ c0
  x0 : 0 ≤ px
  x1 : px < low
  cong : low ∣ px - qx
  b0 : -(MX py - 64) ≤ qx
  b1 : qx ≤ MX py - 64
theorem HI.next {a0 c0 low px qx py vx vy : Int} (h : HI a0 c0 low px qx py) (a1 : 1 ≤ a0) (a64 : a0 ≤ 64) (c1 : 1 ≤ c0) (c64 : c0 ≤ 64) (v0 : 0 ≤ vx) (v1 : vx ≤ 64) (w0 : 0 ≤ vy) (w1 : vy ≤ 64) :
    ∃ g low' e1 e3 f1 f3 : Int, eu 64 px py vx vy = (e1, g, e3) ∧ eu 64 qx py vx vy = (f1, g, f3) ∧ low' = (Int.gcd low e3 : Int) ∧ low' = (Int.gcd low f3 : Int) ∧ HI a0 c0 low' (e1 % low') f1 g ∧ e3.natAbs ≤ 4611686018427387904 ∧ f3.natAbs ≤ 4611686018427387904 ∧
    EB 64 64 8192 px py vx vy ∧ EB (MX py) 64 (MX py * 64 + 4096) qx py vx vy := by
  obtain ⟨l1, la, y1, yc, x0, x1, cong, b0, b1⟩ := h
  have l64 : low ≤ a0 := Int.le_of_dvd (by omega) la
  have y64 : py ≤ c0 := Int.le_of_dvd (by omega) yc
  have m := MX_le py
  have eb1 : EB 64 64 8192 px py vx vy := ⟨by omega, by omega, by omega, by omega, by omega, by omega, by omega, by omega, by omega, by omega⟩
  have mv : MX py * vy ≤ MX py * 64 := Int.mul_le_mul_of_nonneg_left w1 (by omega)
  have eb2 : EB (MX py) 64 (MX py * 64 + 4096) qx py vx vy := ⟨by omega, by omega, by omega, by omega, by omega, by omega, by omega, by omega, by omega, by omega⟩
  have bd1 := eu_bound 64 _ _ _ _ _ _ _ eb1 (by omega) y1 (by omega) (by omega)
  have bd2 := eu_bound 64 _ _ _ _ _ _ _ eb2 (by omega) y1 (by omega) (by omega)
  have row := eu_row 64 px qx py vx vx vy
  have gg := eu_g 64 px py vx vy w0 (by omega) y1
  have md := eu_mod low 64 px qx py vx vx vy cong (by rw [Int.sub_self]; exact Int.dvd_zero _)
  have dv := eu_dvd 64 (MX py - 64) qx py vx vy w0 (by omega) y1
  generalize eu 64 px py vx vy = E at *
  generalize eu 64 qx py vx vy = F at *
  obtain ⟨e1, g, e3⟩ := E
  obtain ⟨f1, g', f3⟩ := F
  simp only at bd1 bd2 row gg md dv
  subst row
  have gl : Int.gcd low e3 = Int.gcd low f3 := gcd_cong md.2
  have lp : 1 ≤ (Int.gcd low e3 : Int) := by
    have h1 : (Int.gcd low e3 : Int) ∣ low := Int.gcd_dvd_left ..
    rcases Nat.eq_zero_or_pos (Int.gcd low e3) with h0 | h0
    · rw [h0] at h1
      have := Int.zero_dvd.1 h1
      omega
    · omega
  have ld : (Int.gcd low e3 : Int) ∣ low := Int.gcd_dvd_left ..
  refine ⟨g, (Int.gcd low e3 : Int), e1, e3, f1, f3, rfl, rfl, rfl, by rw [gl], ?_, by omega, by omega, eb1, eb2⟩
  have gc : g ∣ c0 := Int.dvd_trans gg.2.1 yc
  have gp : g ≤ py := Int.le_of_dvd (by omega) gg.2.1
  have bnd : -(MX g - 64) ≤ f1 ∧ f1 ≤ MX g - 64 := by
    by_cases hd : py ∣ vy
    · have := dv hd (by omega) (by omega) (by omega) (by omega)
      have := MX_anti gp
      omega
    · have hne : g ≠ py := by
        intro he
        rw [he] at gg
        exact hd gg.2.2
      have := MX_half gg.1 (half_of gg.1 y1 gg.2.1 hne) (by omega)
      omega
  refine ⟨lp, Int.dvd_trans ld la, gg.1, gc, Int.emod_nonneg _ (by omega), Int.emod_lt_of_pos _ (by omega), ?_, bnd.1, bnd.2⟩
  have h1 : (Int.gcd low e3 : Int) ∣ e1 - f1 := Int.dvd_trans ld md.1
  have h2 := Int.emod_add_mul_ediv e1 (Int.gcd low e3 : Int)
  have h3 : e1 % (Int.gcd low e3 : Int) - f1 = (e1 - f1) - (Int.gcd low e3 : Int) * (e1 / (Int.gcd low e3 : Int)) := by omega
  rw [h3]
  exact Int.dvd_sub h1 (Int.dvd_mul_right ..)
/-- Vectors that may be among those of which a lattice is told. -/
def Small (v : S50) : Prop := 0 ≤ v.f0 ∧ v.f0 ≤ 64 ∧ 0 ≤ v.f1 ∧ v.f1 ≤ 64
theorem small_rd {L : List S50} (h : ∀ v ∈ L, Small v) (i : Nat) (hi : i < L.length) : Small (rd_T50 L (i : Int)) := by
  unfold rd_T50
  rw [Int.toNat_natCast, List.getD_eq_getElem?_getD, List.getElem?_eq_getElem hi]
  exact h _ (List.getElem_mem hi)
theorem emod_cong {m x y : Int} (h : m ∣ x - y) : x % m = y % m := by
  have := Int.emod_emod_of_dvd
  exact (Int.emod_eq_emod_iff_emod_sub_eq_zero).2 (Int.emod_eq_zero_of_dvd h)
theorem hermite_both {a0 c0 : Int} (a1 : 1 ≤ a0) (a64 : a0 ≤ 64) (c1 : 1 ≤ c0) (c64 : c0 ≤ 64) (L : List S50) (hL : L.length ≤ 1048576) (hs : ∀ v ∈ L, Small v) :
    ∀ (d i : Nat) (low px qx py : Int), i + d = L.length → HI a0 c0 low px qx py → ∃ A B C, yJ.l0v L low (i : Int) px py = some (A, B, C) ∧ yI.l0v low L (L.length : Int) (i : Int) qx py = some (A, B, C) ∧ 1 ≤ A ∧ A ∣ a0 ∧ 0 ≤ B ∧ B < A ∧ 1 ≤ C ∧ C ∣ c0 := by
  intro d
  induction d with
  | zero =>
    intro i low px qx py hi h
    have l64 : low ≤ a0 := Int.le_of_dvd (by omega) h.la
    have l1 := h.l1
    have y1 := h.y1
    refine ⟨low, px, py, ?_, ?_, h.l1, h.la, h.x0, h.x1, h.y1, h.yc⟩
    · rw [yJ.l0v_eq, if_neg (by omega), if_neg (by omega), if_pos (by omega), mod_spec (by omega) (by omega), Int.emod_eq_of_lt h.x0 h.x1]
      rfl
    · rw [yI.l0v_eq, if_neg (by omega), if_neg (by omega), mod_impl (by omega) (by omega), ← emod_cong h.cong, Int.emod_eq_of_lt h.x0 h.x1]
      rfl
  | succ d ih =>
    intro i low px qx py hi h
    have l64 : low ≤ a0 := Int.le_of_dvd (by omega) h.la
    have l1 := h.l1
    have sm := small_rd hs i (by omega)
    rw [yJ.l0v_eq, if_pos (by omega), if_pos (by omega), yI.l0v_eq, if_pos (by omega), if_pos (by omega), if_pos (by omega)]
    generalize (rd_T50 L (i : Int)) = v at sm
    obtain ⟨vx, vy⟩ := v
    obtain ⟨v0, v1, w0, w1⟩ := sm
    simp only at v0 v1 w0 w1
    obtain ⟨g, low', e1, e3, f1, f3, E, F, g1, g2, h', n1, n2, eb1, eb2⟩ := h.next a1 a64 c1 c64 v0 v1 w0 w1
    show ∃ A B C, yJ.l1v L low (i : Int) px py vx vy = some (A, B, C) ∧ yI.l1v low L (L.length : Int) (i : Int) qx py vx vy = some (A, B, C) ∧ _
    rw [eu_spec L low i 64 _ _ _ _ _ _ _ eb1 (by omega), eu_impl L low _ i 64 _ _ _ _ _ _ _ eb2 (by omega), E, F]
    have lo1 := h'.l1
    have lo2 : low' ≤ a0 := Int.le_of_dvd (by omega) h'.la
    rw [yJ.l1v_eq, if_pos rfl, gcd_spec e3.natAbs low e3 (Nat.le_refl _) (by omega) n1, Option.bind_some, ← g1, if_pos (by omega), mod_spec (by omega) (by omega), Option.bind_some, w64 (by omega) (by omega)]
    rw [yI.l1v_eq, if_pos rfl, xL.fv_eq, gcd_impl f3.natAbs low f3 (Nat.le_refl _) (by omega) n2, Option.bind_some, ← g2, w64 (by omega) (by omega)]
    rw [show (i : Int) + 1 = ((i + 1 : Nat) : Int) by omega]
    exact ih (i + 1) low' _ _ _ (by omega) h'
theorem LV.nat {a b c : Int} (v : LV a b c) : ((a.toNat : Nat) : Int) = a ∧ ((b.toNat : Nat) : Int) = b ∧ ((c.toNat : Nat) : Int) = c := by
  have := v.a1
  have := v.b0
  have := v.c1
  omega
theorem cells_spec' {a b c : Int} (v : LV a b c) {n : Nat} (hn : (n : Int) = a * c) : yO.fv a b c = some (cellsL c.toNat n) := by
  have h := cells_spec a.toNat b.toNat c.toNat (by have := v.a64; omega) (by have := v.c1; omega) (by have := v.c64; omega)
  obtain ⟨ea, eb, ec⟩ := v.nat
  rw [ea, eb, ec] at h
  rw [h]
  have : ((a.toNat * c.toNat : Nat) : Int) = a * c := by rw [Int.natCast_mul, ea, ec]
  rw [show a.toNat * c.toNat = n by omega]
theorem cells_impl' {a b c : Int} (v : LV a b c) {n : Nat} (hn : (n : Int) = a * c) : yG.fv a b c = some (cellsL c.toNat n) := by
  have h := cells_impl a.toNat b.toNat c.toNat (by have := v.a64; omega) (by have := v.c1; omega) (by have := v.c64; omega)
  obtain ⟨ea, eb, ec⟩ := v.nat
  rw [ea, eb, ec] at h
  rw [h]
  have : ((a.toNat * c.toNat : Nat) : Int) = a * c := by rw [Int.natCast_mul, ea, ec]
  rw [show a.toNat * c.toNat = n by omega]
theorem cell_small' {a b c : Int} (v : LV a b c) (n : Nat) (hn : (n : Int) < a * c) : 0 ≤ (cellV c.toNat n).f0 ∧ (cellV c.toNat n).f0 ≤ 63 ∧ 0 ≤ (cellV c.toNat n).f1 ∧ (cellV c.toNat n).f1 ≤ 63 := by
  obtain ⟨x, y, e, x0, xa, y0, yc, _⟩ := cell_num v n hn
  rw [e]
  have := v.a64
  have := v.c64
  show 0 ≤ x ∧ x ≤ 63 ∧ 0 ≤ y ∧ y ≤ 63
  exact ⟨x0, by omega, y0, by omega⟩
theorem num_cell {a b c : Int} (v : LV a b c) (n : Nat) (hn : (n : Int) < a * c) : numL a b c (cellV c.toNat n).f0 (cellV c.toNat n).f1 = n := by
  obtain ⟨x, y, e, x0, xa, y0, yc, xy⟩ := cell_num v n hn
  rw [e]
  have := red_cell (a := a) (b := b) (c := c) x0 xa y0 yc
  unfold numL
  simp only []
  rw [this.1, this.2, xy]
theorem at_spec_v {f a b c : Int} {l : List Int} (v : LV a b c) (hl : (l.length : Int) = a * c) (x y : Int) (hx : -1000000 ≤ x) (hx' : x ≤ 1000000) (hy : -1000000 ≤ y) (hy' : y ≤ 1000000) : xY.f f a b c l x y = some (rd l (numL a b c x y)) := by
  have h := num_in v x y
  unfold xY.f
  rw [number_spec v hx hx' hy hy', Option.bind_some, if_pos h.1, if_pos (by omega)]
theorem at_impl_w {f a b c : Int} {l : List Int} (v : LV a b c) (hl : (l.length : Int) = a * c) (x y : Int) (hx : -1000000 ≤ x) (hx' : x ≤ 1000000) (hy : -1000000 ≤ y) (hy' : y ≤ 1000000) : xT.f f a b c l x y = some (rd l (numL a b c x y)) := by
  have h := num_in v x y
  unfold xT.f
  rw [reduce_impl v hx hx' hy hy', Option.bind_some, number_impl v, Option.bind_some, if_pos h.1, if_pos (by omega)]
/-- A shift keeps all colours. -/
def KeepsP (a b c : Int) (l : List Int) (sx sy : Int) : Prop := ∀ j : Int, 0 ≤ j → j < l.length → rd l (numL a b c ((cellV c.toNat j.toNat).f0 + sx) ((cellV c.toNat j.toNat).f1 + sy)) = rd l j
noncomputable instance (a b c : Int) (l : List Int) (sx sy : Int) : Decidable (KeepsP a b c l sx sy) := Classical.propDecidable _
theorem unit_apply {x y sx sy : Int} (hx : 0 ≤ x) (hx' : x ≤ 63) (hy : 0 ≤ y) (hy' : y ≤ 63) (h0 : 0 ≤ sx) (h1 : sx ≤ 63) (h2 : 0 ≤ sy) (h3 : sy ≤ 63) : xZ.f 1 0 0 1 sx sy x y = some (x + sx, y + sy) ∧ xS.f 1 0 0 1 sx sy x y = some (x + sx, y + sy) := by
  unfold xZ.f xS.f wW.f wU.f wX.f xX.f
  simp only [Option.bind_some, Int.one_mul, Int.zero_mul]
  rw [w64 (x := 0) (by omega) (by omega), w64 (x := x) (by omega) (by omega), w64 (x := y) (by omega) (by omega), Int.add_zero, Int.zero_add, w64 (x := x) (by omega) (by omega), w64 (x := y) (by omega) (by omega), w64 (x := x + sx) (by omega) (by omega), w64 (x := y + sy) (by omega) (by omega)]
  exact ⟨rfl, rfl⟩
open Classical in
theorem keepsP_spec {f a b c : Int} {l : List Int} (v : LV a b c) (hl : (l.length : Int) = a * c) (sx sy : Int) (h0 : 0 ≤ sx) (h1 : sx ≤ 63) (h2 : 0 ≤ sy) (h3 : sy ≤ 63) : yW.fv f a b c l 1 0 0 1 sx sy = some (decide (KeepsP a b c l sx sy)) := by
  have ac := v.ac
  rw [yW.fv_eq, cells_spec' v hl, Option.bind_some]
  have := all_loop (fun i => yW.l0v (cellsL c.toNat l.length) i f a b c l 1 0 0 1 sx sy) (fun j => rd l (numL a b c ((cellV c.toNat j.toNat).f0 + sx) ((cellV c.toNat j.toNat).f1 + sy)) = rd l j) l.length (some true)
    (by show yW.l0v _ _ _ _ _ _ _ _ _ _ _ _ _ = _; rw [yW.l0v_eq, if_neg (by rw [cellsL_len]; omega)])
    (fun i i0 i1 => by
      show yW.l0v _ _ _ _ _ _ _ _ _ _ _ _ _ = _
      obtain ⟨n, rfl⟩ : ∃ n : Nat, i = n := ⟨i.toNat, by omega⟩
      have sm := cell_small' v n (by omega)
      rw [yW.l0v_eq, if_pos (by rw [cellsL_len]; omega), if_pos i0, cellsL_get _ _ _ (by omega), (unit_apply sm.1 sm.2.1 sm.2.2.1 sm.2.2.2 h0 h1 h2 h3).1, Option.bind_some]
      simp only []
      rw [at_spec_v v hl _ _ (by omega) (by omega) (by omega) (by omega), Option.bind_some, at_spec_v v hl _ _ (by omega) (by omega) (by omega) (by omega), Option.bind_some, num_cell v n (by omega), w64 (by omega) (by omega), Int.toNat_natCast]
      split <;> rfl) l.length 0 (by omega) (by omega)
  rw [this]
  by_cases k : KeepsP a b c l sx sy
  · rw [decide_eq_true k]; exact if_pos k
  · rw [decide_eq_false k]; exact if_neg k
open Classical in
theorem keepsP_impl {f a b c : Int} {l : List Int} (v : LV a b c) (hl : (l.length : Int) = a * c) (sx sy : Int) (h0 : 0 ≤ sx) (h1 : sx ≤ 63) (h2 : 0 ≤ sy) (h3 : sy ≤ 63) : yM.fv f a b c l 1 0 0 1 sx sy = some (decide (KeepsP a b c l sx sy)) := by
  have ac := v.ac
  rw [yM.fv_eq, cells_impl' v hl, Option.bind_some, cellsL_len]
  have := all_loop (fun i => yM.l0v (cellsL c.toNat l.length) l.length i f a b c l 1 0 0 1 sx sy) (fun j => rd l (numL a b c ((cellV c.toNat j.toNat).f0 + sx) ((cellV c.toNat j.toNat).f1 + sy)) = rd l j) l.length (some true)
    (by show yM.l0v _ _ _ _ _ _ _ _ _ _ _ _ _ _ = _; rw [yM.l0v_eq, if_neg (by omega)])
    (fun i i0 i1 => by
      show yM.l0v _ _ _ _ _ _ _ _ _ _ _ _ _ _ = _
      obtain ⟨n, rfl⟩ : ∃ n : Nat, i = n := ⟨i.toNat, by omega⟩
      have sm := cell_small' v n (by omega)
      rw [yM.l0v_eq, if_pos i1, if_pos i0, if_pos (by rw [cellsL_len]; omega), cellsL_get _ _ _ (by omega), (unit_apply sm.1 sm.2.1 sm.2.2.1 sm.2.2.2 h0 h1 h2 h3).2, Option.bind_some]
      simp only []
      rw [at_impl_w v hl _ _ (by omega) (by omega) (by omega) (by omega), Option.bind_some, if_pos (by omega), w64 (by omega) (by omega), Int.toNat_natCast]
      split <;> rfl) l.length 0 (by omega) (by omega)
  rw [this]
  by_cases k : KeepsP a b c l sx sy
  · rw [decide_eq_true k]; exact if_pos k
  · rw [decide_eq_false k]; exact if_neg k
/-- The lattice of a basis and of some more. -/
theorem lattice_both {a b c : Int} (v : LV a b c) (M : List S50) (hM : M.length ≤ 1000) (hs : ∀ u ∈ M, Small u) :
    ∃ A B C, LV A B C ∧ yJ.fv ((⟨a, 0⟩ : S50) :: ⟨b, c⟩ :: M) = some (A, B, C) ∧ yI.fv ((⟨a, 0⟩ : S50) :: ⟨b, c⟩ :: M) = some (A, B, C) := by
  have a1 := v.a1
  have a64 := v.a64
  have c1 := v.c1
  have c64 := v.c64
  have b0 := v.b0
  have ba := v.ba
  have all : ∀ u ∈ ((⟨a, 0⟩ : S50) :: ⟨b, c⟩ :: M), Small u := by
    intro u hu
    rcases List.mem_cons.1 hu with rfl | hu
    · exact ⟨by show 0 ≤ a; omega, a64, Int.le_refl 0, by show (0 : Int) ≤ 64; omega⟩
    · rcases List.mem_cons.1 hu with rfl | hu
      · exact ⟨b0, by show b ≤ 64; omega, by show 0 ≤ c; omega, c64⟩
      · exact hs u hu
  have len : ((⟨a, 0⟩ : S50) :: ⟨b, c⟩ :: M).length = M.length + 2 := rfl
  have r0 : rd_T50 ((⟨a, 0⟩ : S50) :: ⟨b, c⟩ :: M) 0 = ⟨a, 0⟩ := rfl
  have r1 : rd_T50 ((⟨a, 0⟩ : S50) :: ⟨b, c⟩ :: M) 1 = ⟨b, c⟩ := rfl
  generalize ((⟨a, 0⟩ : S50) :: ⟨b, c⟩ :: M) = L at *
  have g1 : (Int.gcd 0 a : Int) = a := by rw [Int.gcd_zero_left]; omega
  have g2 : (Int.gcd a 0 : Int) = a := by rw [Int.gcd_zero_right]; omega
  have t0 : Int.tdiv 0 c = 0 := Int.zero_tdiv c
  have hi : HI a c a b b c := ⟨a1, Int.dvd_refl _, c1, Int.dvd_refl _, b0, by omega, by rw [Int.sub_self]; exact Int.dvd_zero _, by have := MX_le c; omega, by have := MX_le c; omega⟩
  obtain ⟨A, B, C, s, i, A1, Aa, B0, BA, C1, Cc⟩ := hermite_both (a0 := a) (c0 := c) a1 a64 c1 c64 L (by omega) all M.length 2 a b b c (by omega) hi
  have Al : A ≤ a := Int.le_of_dvd (by omega) Aa
  have Cl : C ≤ c := Int.le_of_dvd (by omega) Cc
  have ac := v.ac
  have m1 := Int.mul_le_mul Al Cl (by omega) (by omega)
  refine ⟨A, B, C, ⟨A1, by omega, C1, by omega, B0, by omega, by omega⟩, ?_, ?_⟩
  · rw [yJ.fv_eq, yJ.l0v_eq, if_pos (by omega), if_pos (by omega), r0]
    simp only []
    rw [yJ.l1v_eq, if_pos rfl, gcd_spec a.natAbs 0 a (Nat.le_refl _) (by decide) (by omega), Option.bind_some, g1, if_pos (by omega), mod_spec (by omega) (by omega), Int.zero_emod, Option.bind_some, show wrap64 (0 + 1) = 1 by rw [w64 (by omega) (by omega)]; rfl]
    rw [yJ.l0v_eq, if_pos (by omega), if_pos (by omega), r1]
    simp only []
    rw [yJ.l1v_eq, if_neg (by omega), t0, show wrap64 0 = 0 by rw [w64 (by omega) (by omega)], Int.zero_mul, Int.zero_mul, show wrap64 0 = 0 by rw [w64 (by omega) (by omega)], show wrap64 (0 - 0) = 0 by rw [w64 (by omega) (by omega)]; rfl]
    rw [yJ.l1v_eq, if_pos rfl, gcd_spec 0 a 0 (by decide) (by omega) (by decide), Option.bind_some, g2, if_pos (by omega), mod_spec (by omega) (by omega), Int.emod_eq_of_lt b0 (by omega), Option.bind_some, show wrap64 (1 + 1) = 2 by rw [w64 (by omega) (by omega)]; rfl]
    exact s
  · rw [yI.fv_eq, yI.l0v_eq, if_pos (by omega), if_pos (by omega), if_pos (by omega), r0]
    simp only []
    rw [yI.l1v_eq, if_pos rfl, xL.fv_eq, gcd_impl a.natAbs 0 a (Nat.le_refl _) (by decide) (by omega), Option.bind_some, g1, show wrap64 (0 + 1) = 1 by rw [w64 (by omega) (by omega)]; rfl]
    rw [yI.l0v_eq, if_pos (by omega), if_pos (by omega), if_pos (by omega), r1]
    simp only []
    rw [yI.l1v_eq, if_neg (by omega), t0]
    unfold wI.f xX.f
    simp only [Option.bind_some]
    rw [show wrap64 0 = 0 by rw [w64 (by omega) (by omega)], show wrap64 (-0) = 0 by rw [w64 (by omega) (by omega)]; rfl, Int.zero_mul, Int.zero_mul, show wrap64 0 = 0 by rw [w64 (by omega) (by omega)], show wrap64 (0 + 0) = 0 by rw [w64 (by omega) (by omega)]; rfl]
    rw [yI.l1v_eq, if_pos rfl, xL.fv_eq, gcd_impl 0 a 0 (by decide) (by omega) (by decide), Option.bind_some, g2, show wrap64 (1 + 1) = 2 by rw [w64 (by omega) (by omega)]; rfl]
    exact i
theorem full_both {f a b c : Int} {l : List Int} (p : PV f a b c l) : ∃ A B C, LV A B C ∧ yX.fv f a b c l = some (A, B, C) ∧ yH.fv f a b c l = some (A, B, C) := by
  have v := lv_of p.lat
  have hl := p.len
  have ac := v.ac
  rw [yX.fv_eq, yH.fv_eq, cells_spec' v hl, cells_impl' v hl]
  unfold wP.f xR.f
  simp only [Option.bind_some, cellsL_len]
  have go : ∀ (d i : Nat) (M : List S50), i + d = l.length → M.length ≤ i → (∀ u ∈ M, Small u) → ∃ M', M'.length ≤ l.length ∧ (∀ u ∈ M', Small u) ∧
      yX.l0v (cellsL c.toNat l.length) ((⟨a, 0⟩ : S50) :: ⟨b, c⟩ :: M) (i : Int) f a b c l = (yJ.fv ((⟨a, 0⟩ : S50) :: ⟨b, c⟩ :: M')).bind (fun t => some (t.1, t.2.1, t.2.2)) ∧
      yH.l0v ((⟨a, 0⟩ : S50) :: ⟨b, c⟩ :: M) (cellsL c.toNat l.length) (l.length : Int) (i : Int) f a b c l = (yI.fv ((⟨a, 0⟩ : S50) :: ⟨b, c⟩ :: M')).bind (fun t => some (t.1, t.2.1, t.2.2)) := by
    intro d
    induction d with
    | zero =>
      intro i M hi hM hs
      refine ⟨M, by omega, hs, ?_, ?_⟩
      · rw [yX.l0v_eq, if_neg (by rw [cellsL_len]; omega)]
      · rw [yH.l0v_eq, if_neg (by omega)]
    | succ d ih =>
      intro i M hi hM hs
      have sm := cell_small' v i (by omega)
      have k1 := keepsP_spec (f := f) v hl (cellV c.toNat i).f0 (cellV c.toNat i).f1 sm.1 sm.2.1 sm.2.2.1 sm.2.2.2
      have k2 := keepsP_impl (f := f) v hl (cellV c.toNat i).f0 (cellV c.toNat i).f1 sm.1 sm.2.1 sm.2.2.1 sm.2.2.2
      have le : (((⟨a, 0⟩ : S50) :: ⟨b, c⟩ :: M).length < 8796093022208) = True := eq_true (by show M.length + 2 < 8796093022208; omega)
      have q0 : (0 ≤ (i : Int)) = True := eq_true (by omega)
      have q1 : ((i : Int) < ((cellsL c.toNat l.length).length : Int)) = True := eq_true (by rw [cellsL_len]; omega)
      have q2 : ((i : Int) < (l.length : Int)) = True := eq_true (by omega)
      have q3 : wrap64 ((i : Int) + 1) = ((i + 1 : Nat) : Int) := by rw [w64 (by omega) (by omega)]; omega
      have q4 := cellsL_get c.toNat l.length i (by omega)
      rw [yX.l0v_eq, yH.l0v_eq]
      unfold wY.f wZ.f
      simp only [Option.bind_some, q0, q1, q2, q3, q4, le, if_true, k1, k2, decide_eq_true_eq]
      by_cases k : KeepsP a b c l (cellV c.toNat i).f0 (cellV c.toNat i).f1
      · simp only [if_pos k]
        refine ih (i + 1) (M ++ [(⟨(cellV c.toNat i).f0, (cellV c.toNat i).f1⟩ : S50)]) (by omega) (by simp; omega) (fun u hu => ?_)
        rcases List.mem_append.1 hu with hu | hu
        · exact hs u hu
        · rw [List.mem_singleton.1 hu]
          exact ⟨sm.1, by show (cellV c.toNat i).f0 ≤ 64; omega, sm.2.2.1, by show (cellV c.toNat i).f1 ≤ 64; omega⟩
      · simp only [if_neg k]
        exact ih (i + 1) M (by omega) (by omega) hs
  obtain ⟨M', hM', hs', e1, e2⟩ := go l.length 0 [] (by omega) (Nat.le_refl _) (fun u hu => by cases hu)
  obtain ⟨A, B, C, lv, s, i⟩ := lattice_both v M' (by omega) hs'
  refine ⟨A, B, C, lv, ?_, ?_⟩
  · refine Eq.trans e1 ?_
    rw [s]; rfl
  · refine Eq.trans e2 ?_
    rw [i]; rfl
def hasB (a b c x y : Int) : Bool := redX a b c x y == 0 && (redY c y == 0)
theorem has_spec {a b c x y : Int} (v : LV a b c) (hx : -1000000 ≤ x) (hx' : x ≤ 1000000) (hy : -1000000 ≤ y) (hy' : y ≤ 1000000) : wN.f a b c x y = some (hasB a b c x y) := by
  unfold wN.f
  rw [reduce_spec v hx hx' hy hy']; rfl
theorem has_impl {a b c x y : Int} (v : LV a b c) (hx : -1000000 ≤ x) (hx' : x ≤ 1000000) (hy : -1000000 ≤ y) (hy' : y ≤ 1000000) : wA.f a b c x y = some (hasB a b c x y) := by
  unfold wA.f
  rw [reduce_impl v hx hx' hy hy']; rfl
theorem has_index {a b c : Int} (v : LV a b c) : hasB a b c 0 (a * c) = true := by
  have := v.c1
  unfold hasB redX redY
  rw [Int.mul_emod_left, Int.mul_ediv_cancel _ (by omega), show (0 : Int) - a * b = a * (-b) by rw [Int.mul_neg]; omega, Int.mul_emod_right]
  rfl
theorem has_side {a b c : Int} (v : LV a b c) : hasB a b c a 0 = true := by
  unfold hasB redX redY
  rw [Int.zero_ediv, Int.zero_mul, Int.sub_zero, Int.emod_self, Int.zero_emod]
  rfl
theorem repeat_both {a b c : Int} (v : LV a b c) : ∃ r, 1 ≤ r ∧ r ≤ 64 ∧ yT.fv a b c = some r ∧ xE.fv a b c = some r := by
  have ac := v.ac
  have h := has_index v
  have pos : 1 ≤ a * c := by
    have := Int.mul_le_mul v.a1 v.c1 (by omega) (by have := v.a1; omega)
    omega
  have go : ∀ (d : Nat) (n : Int), 1 ≤ n → n + d = a * c → ∃ r, 1 ≤ r ∧ r ≤ 64 ∧ yT.l0v n a b c = some r ∧ yK.l0v a b c 0 1 0 n = some (0, r) := by
    intro d
    induction d with
    | zero =>
      intro n h1 h2
      obtain rfl : n = a * c := by omega
      refine ⟨a * c, h1, ac, ?_, ?_⟩
      · rw [yT.l0v_eq, has_spec v (by omega) (by omega) (by omega) (by omega), h, Option.bind_some, if_pos rfl]
      · rw [yK.l0v_eq, has_impl v (by omega) (by omega) (by omega) (by omega), h, Option.bind_some, if_pos rfl]
    | succ d ih =>
      intro n h1 h2
      rw [yT.l0v_eq, has_spec v (by omega) (by omega) (by omega) (by omega), Option.bind_some, yK.l0v_eq, has_impl v (by omega) (by omega) (by omega) (by omega), Option.bind_some]
      cases hb : hasB a b c 0 n with
      | true => exact ⟨n, h1, by omega, rfl, rfl⟩
      | false =>
        rw [if_neg (by decide), if_neg (by decide)]
        unfold xX.f
        simp only [Option.bind_some]
        rw [w64 (x := n + 1) (by omega) (by omega), w64 (x := 0 + 0) (by omega) (by omega)]
        exact ih (n + 1) (by omega) (by omega)
  obtain ⟨r, r1, r2, s, i⟩ := go (a * c - 1).toNat 1 (by omega) (by omega)
  refine ⟨r, r1, r2, ?_, ?_⟩
  · rw [yT.fv_eq]; exact s
  · rw [xE.fv_eq, yK.fv_eq, i]; rfl
theorem drop_both {a b c : Int} (v : LV a b c) (w : Int) (w0 : -100000 ≤ w) (w1 : w ≤ 100000) : ∃ (k : Int) (ok : Bool), 0 ≤ k ∧ k ≤ 64 ∧ xA.fv a b c w = some (if ok = true then k else 0, ok) ∧ yR.fv a b c w = some (if ok = true then k else -1) ∧ (hasB a b c w 0 = true → ok = true) := by
  obtain ⟨r, r1, r2, s, i⟩ := repeat_both v
  rw [xA.fv_eq, yR.fv_eq, s, i, Option.bind_some, Option.bind_some]
  have go : ∀ (d : Nat) (n : Int), 0 ≤ n → n + d = r → ∃ (k : Int) (ok : Bool), 0 ≤ k ∧ k ≤ 64 ∧ xA.l0v w r n a b c = some (if ok = true then k else 0, ok) ∧ yR.l0v w r n a b c = some (if ok = true then k else -1) ∧ (hasB a b c w (-n) = true → 1 ≤ d → ok = true) := by
    intro d
    induction d with
    | zero =>
      intro n h1 h2
      refine ⟨0, false, by omega, by omega, ?_, ?_, fun _ h => by omega⟩
      · rw [xA.l0v_eq, if_neg (by omega)]; rfl
      · rw [yR.l0v_eq, if_neg (by omega)]; rfl
    | succ d ih =>
      intro n h1 h2
      rw [xA.l0v_eq, if_pos (by omega), yR.l0v_eq, if_pos (by omega), w64 (x := -n) (by omega) (by omega), has_spec v (by omega) (by omega) (by omega) (by omega), has_impl v (by omega) (by omega) (by omega) (by omega), Option.bind_some, Option.bind_some]
      cases hb : hasB a b c w (-n) with
      | true => exact ⟨n, true, h1, by omega, rfl, rfl, fun _ _ => rfl⟩
      | false =>
        rw [if_neg (by decide), if_neg (by decide), w64 (x := n + 1) (by omega) (by omega)]
        obtain ⟨k, ok, k0, k1, e1, e2, _⟩ := ih (n + 1) (by omega) (by omega)
        exact ⟨k, ok, k0, k1, e1, e2, fun h _ => by cases h⟩
  obtain ⟨k, ok, k0, k1, e1, e2, e3⟩ := go r.toNat 0 (by omega) (by omega)
  exact ⟨k, ok, k0, k1, e1, e2, fun h => e3 (by simpa using h) (by omega)⟩
theorem roll_spec {f a b c : Int} {l : List Int} (hl : l.length ≤ 1048576) (q : Bool) : (patB f a b c l = true ∧ f = 0 ∧ ∃ A B C, LV A B C ∧ yU.fv f a b c l q = (if q = true then some (A, B, C, 0) else some (0, 0, 0, 2)) ∧ xK.fv f a b c l = some (A, B, C, 0)) ∨ (yU.fv f a b c l q = some (0, 0, 0, 1) ∧ xK.fv f a b c l = some (0, 0, 0, 1)) := by
  rw [yU.fv_eq, xK.fv_eq, pat_spec f a b c l (by omega), pat_impl, Option.bind_some, Option.bind_some]
  cases hp : patB f a b c l with
  | false =>
    refine .inr ⟨?_, ?_⟩
    · rw [if_neg (by decide), yU.j0v_eq, if_pos rfl]
    · rw [if_neg (by decide)]
  | true =>
    rw [if_pos rfl, if_pos rfl, yU.j0v_eq]
    by_cases hf : f = 0
    · obtain ⟨A, B, C, lv, s, i⟩ := full_both (pv_of hp)
      refine .inl ⟨rfl, hf, A, B, C, lv, ?_, ?_⟩
      · subst hf
        rw [if_neg (by decide), s]
        rfl
      · rw [if_pos hf, i]; rfl
    · refine .inr ⟨?_, ?_⟩
      · rw [if_pos (by simpa using hf)]
      · rw [if_neg hf]
theorem isRoll_impl (x : Int) : wC.f x = some (inB 1 1000 x) := by
  unfold wC.f
  rw [in_impl]; rfl
theorem panels_both {f a b c : Int} {l : List Int} (hl : l.length ≤ 1048576) (w : Int) (q : Bool) :
    (∃ A B C r k : Int, LV A B C ∧ yU.fv f a b c l true = some (A, B, C, 0) ∧ 1 ≤ r ∧ r ≤ 64 ∧ 0 ≤ k ∧ k ≤ 64 ∧ yT.fv A B C = some r ∧ xA.fv A B C w = some (k, true) ∧ xB.fv f a b c l w q = some (r, k, 0) ∧ inB 1 1000 w = true ∧ q = true) ∨
    (∃ e : Int, e ≠ 0 ∧ yU.fv f a b c l (inB 1 1000 w && q) = some (0, 0, 0, e) ∧ xB.fv f a b c l w q = some (0, 0, e)) ∨
    (∃ A B C : Int, LV A B C ∧ yU.fv f a b c l true = some (A, B, C, 0) ∧ xA.fv A B C w = some (0, false) ∧ xB.fv f a b c l w q = some (0, 0, 4) ∧ inB 1 1000 w = true ∧ q = true) := by
  rw [xB.fv_eq]
  rcases roll_spec (f := f) (a := a) (b := b) (c := c) hl (inB 1 1000 w && q) with ⟨_, _, A, B, C, lv, s, i⟩ | ⟨s, i⟩
  · rw [i, Option.bind_some, if_pos rfl, isRoll_impl, Option.bind_some]
    cases hw : inB 1 1000 w with
    | false =>
      rw [hw, Bool.false_and, if_neg (by decide)] at s
      exact .inr (.inl ⟨2, by decide, by rw [Bool.false_and]; exact s, by rw [if_neg (by decide), xB.j0v_eq, if_pos rfl]⟩)
    | true =>
      rw [hw, Bool.true_and] at s
      cases q with
      | false =>
        rw [if_neg (by decide)] at s
        exact .inr (.inl ⟨2, by decide, s, by rw [if_pos rfl, xB.j0v_eq, if_pos (show (!false) = true by decide)]⟩)
      | true =>
        rw [if_pos rfl] at s
        have hb := inB_iff.1 hw
        obtain ⟨r, r1, r2, s', i'⟩ := repeat_both lv
        obtain ⟨k, ok, k0, k1, sd, idr, _⟩ := drop_both lv w (by omega) (by omega)
        rw [if_pos rfl, xB.j0v_eq, if_neg (by decide)]
        simp only []
        cases ok with
        | true =>
          refine .inl ⟨A, B, C, r, k, lv, s, r1, r2, k0, k1, s', sd, ?_, by simp, by simp⟩
          rw [idr, if_pos rfl, Option.bind_some, if_neg (by omega), i', Option.bind_some]
        | false =>
          refine .inr (.inr ⟨A, B, C, lv, s, sd, ?_, by simp, by simp⟩)
          rw [idr, if_neg (by decide), Option.bind_some, if_pos (by decide)]
  · exact .inr (.inl ⟨1, by decide, s, by rw [i]; rfl⟩)
/-- Rows at which panels are cut. -/
structure SI (h : Int) (o : List Int) : Prop where
  pos : 1 ≤ o.length
  bnd : ∀ i : Nat, i < o.length → 0 ≤ o.getD i 0 ∧ o.getD i 0 ≤ 1100 * i ∧ i ≤ 100
  up : ∀ i : Nat, i + 1 < o.length → o.getD i 0 + h ≤ o.getD (i + 1) 0
theorem SI.mono {h : Int} {o : List Int} (s : SI h o) (h1 : 0 ≤ h := by omega) : ∀ (i j : Nat), i ≤ j → j < o.length → o.getD i 0 ≤ o.getD j 0 := by
  intro i j hij
  induction j with
  | zero => intro _; obtain rfl : i = 0 := by omega
            exact Int.le_refl _
  | succ j ih =>
    intro hj
    by_cases e : i = j + 1
    · subst e; exact Int.le_refl _
    · have := ih (by omega) (by omega)
      have := s.up j hj
      omega
theorem getD_app (o : List Int) (x : Int) (i : Nat) : (o ++ [x]).getD i 0 = if i < o.length then o.getD i 0 else if i = o.length then x else 0 := by
  rw [List.getD_eq_getElem?_getD, List.getD_eq_getElem?_getD]
  by_cases h : i < o.length
  · rw [if_pos h, List.getElem?_append_left h]
  · rw [if_neg h, List.getElem?_append_right (by omega)]
    by_cases e : i = o.length
    · subst e; simp
    · rw [if_neg e, List.getElem?_eq_none (by simp; omega)]; rfl
theorem SI.snoc {h m y : Int} {o : List Int} (so : SI h o) (hl : o.length ≤ 99) (h1 : 1 ≤ h) (h2 : h ≤ 1000) (m0 : 0 ≤ m) (m1 : m < 64) (hy : o.getD (o.length - 1) 0 = y) : SI h (o ++ [y + h + m]) := by
  have pos := so.pos
  have b := so.bnd (o.length - 1) (by omega)
  rw [hy] at b
  refine ⟨by simp, fun i hi => ?_, fun i hi => ?_⟩
  · rw [List.length_append, List.length_singleton] at hi
    rw [getD_app]
    by_cases e : i < o.length
    · rw [if_pos e]; exact so.bnd i e
    · have e2 : i = o.length := by omega
      rw [if_neg e, if_pos e2]
      omega
  · rw [List.length_append, List.length_singleton] at hi
    have e0 : i < o.length := by omega
    rw [getD_app, getD_app, if_pos e0]
    by_cases e : i + 1 < o.length
    · rw [if_pos e]; exact so.up i e
    · have e2 : i + 1 = o.length := by omega
      rw [if_neg e, if_pos e2, show i = o.length - 1 by omega, hy]
      omega
theorem start_eqs {r k h n y x : Int} {o : List Int} (r1 : 1 ≤ r) (r2 : r ≤ 64) (h1 : 1 ≤ h) (h2 : h ≤ 1000) (pos : 1 ≤ o.length) (hl : o.length ≤ 99) (hn : (o.length : Int) < n) (hx : (o.length : Int) * k = x) (x0 : 0 ≤ x) (x1 : x ≤ 6400) (hy : rd o ((o.length : Int) - 1) = y) (y0 : 0 ≤ y) (y1 : y ≤ 110000) :
    yV.l0v r k h n o (o.length : Int) = yV.l0v r k h n (o ++ [y + h + (x - (y + h)) % r]) ((o.length : Int) + 1) ∧ yP.l0v r k h n o (o.length : Int) = yP.l0v r k h n (o ++ [y + h + (x - (y + h)) % r]) ((o.length : Int) + 1) := by
  have m0 := Int.emod_nonneg (x - (y + h)) (show r ≠ 0 by omega)
  have m1 := Int.emod_lt_of_pos (x - (y + h)) (show 0 < r by omega)
  have q1 : (0 : Int) ≤ (o.length : Int) - 1 := by omega
  have q2 : (o.length : Int) - 1 < (o.length : Int) := by omega
  have q3 : o.length < 17592186044416 := by omega
  have wx : wrap64 x = x := w64 (by omega) (by omega)
  have wy : wrap64 (y + h) = y + h := w64 (by omega) (by omega)
  have wz : wrap64 (x - (y + h)) = x - (y + h) := w64 (by omega) (by omega)
  have wm : wrap64 (y + h + (x - (y + h)) % r) = y + h + (x - (y + h)) % r := w64 (by omega) (by omega)
  have w1 : wrap64 ((o.length : Int) - 1) = (o.length : Int) - 1 := w64 (by omega) (by omega)
  have w2 : wrap64 ((o.length : Int) + 1) = (o.length : Int) + 1 := w64 (by omega) (by omega)
  have s1 := mod_spec (a := x - (y + h)) (n := r) (by omega) (by omega)
  have i1 := mod_impl (a := x - (y + h)) (n := r) (by omega) (by omega)
  constructor
  · rw [yV.l0v_eq, if_pos hn, w1, if_pos q1, if_pos q2, hy, hx, wx, wy, wz, s1, Option.bind_some, if_pos q3, wm, w2]
  · rw [yP.l0v_eq, if_pos hn, w1, if_pos q1, if_pos q2, hy, hx, wx, wy, wz, i1, Option.bind_some, if_pos q3, wm, w2]
theorem starts_go {r k h n : Int} (r1 : 1 ≤ r) (r2 : r ≤ 64) (k0 : 0 ≤ k) (k1 : k ≤ 64) (h1 : 1 ≤ h) (h2 : h ≤ 1000) (n2 : n ≤ 100) : ∀ (d : Nat) (o : List Int), SI h o → (o.length : Int) + d = n → ∃ s : List Int, SI h s ∧ (s.length : Int) = n ∧ yV.l0v r k h n o (o.length : Int) = some s ∧ yP.l0v r k h n o (o.length : Int) = some s := by
  intro d
  induction d with
  | zero =>
    intro o so ho
    refine ⟨o, so, by omega, ?_, ?_⟩
    · rw [yV.l0v_eq, if_neg (by omega)]
    · rw [yP.l0v_eq, if_neg (by omega)]
  | succ d ih =>
    intro o so ho
    have pos := so.pos
    have hl : o.length ≤ 99 := by omega
    have b := so.bnd (o.length - 1) (by omega)
    have kn : 0 ≤ (o.length : Int) * k := Int.mul_nonneg (Int.natCast_nonneg _) k0
    have kn' : (o.length : Int) * k ≤ 100 * 64 := Int.mul_le_mul (show (o.length : Int) ≤ 100 by omega) k1 k0 (by decide)
    have rr : rd o ((o.length : Int) - 1) = o.getD (o.length - 1) 0 := by rw [show (o.length : Int) - 1 = ((o.length - 1 : Nat) : Int) by omega, rd_nat']
    have m0 := Int.emod_nonneg ((o.length : Int) * k - (o.getD (o.length - 1) 0 + h)) (show r ≠ 0 by omega)
    have m1 := Int.emod_lt_of_pos ((o.length : Int) * k - (o.getD (o.length - 1) 0 + h)) (show 0 < r by omega)
    obtain ⟨e1, e2⟩ := start_eqs (n := n) r1 r2 h1 h2 pos hl (by omega) rfl kn kn' rr b.1 (by omega)
    have so' := so.snoc hl h1 h2 m0 (Int.lt_of_lt_of_le m1 r2) rfl
    have len : (((o ++ [o.getD (o.length - 1) 0 + h + ((o.length : Int) * k - (o.getD (o.length - 1) 0 + h)) % r]).length : Nat) : Int) = (o.length : Int) + 1 := by rw [List.length_append, List.length_singleton]; omega
    obtain ⟨s, si, sl, f1, f2⟩ := ih _ so' (by rw [len]; omega)
    rw [len] at f1 f2
    exact ⟨s, si, sl, e1.trans f1, e2.trans f2⟩
theorem starts_both {r k h : Int} (r1 : 1 ≤ r) (r2 : r ≤ 64) (k0 : 0 ≤ k) (k1 : k ≤ 64) (h1 : 1 ≤ h) (h2 : h ≤ 1000) (n : Int) (n1 : 1 ≤ n) (n2 : n ≤ 100) : ∃ s : List Int, SI h s ∧ (s.length : Int) = n ∧ yV.fv r k h n = some s ∧ yP.fv r k h n = some s := by
  rw [yV.fv_eq, yP.fv_eq]
  have s0 : SI h [0] := by
    refine ⟨Nat.le_refl 1, fun i hi => ?_, fun i hi => ?_⟩
    · have e : i = 0 := by simp only [List.length_singleton] at hi; omega
      subst e
      exact ⟨Int.le_refl 0, Int.le_refl 0, Nat.zero_le _⟩
    · simp only [List.length_singleton] at hi
      omega
  exact starts_go r1 r2 k0 k1 h1 h2 n2 (n - 1).toNat [0] s0 (by rw [List.length_singleton]; omega)
theorem isHanging_impl (x : Int) : wK.f x = some (inB 1 100 x) := by
  unfold wK.f
  rw [in_impl]; rfl
theorem panelStarts_both {f a b c : Int} {l : List Int} (hl : l.length ≤ 1048576) (w h n : Int) :
    (∃ s : List Int, SI h s ∧ (s.length : Int) = n ∧ 1 ≤ n ∧ n ≤ 100 ∧ 1 ≤ h ∧ h ≤ 1000 ∧ xD.fv f a b c l w h n = some (s, 0) ∧ yS.fv f a b c l w h n = some (s, 0)) ∨
    (∃ e : Int, e ≠ 0 ∧ xD.fv f a b c l w h n = some ([], e) ∧ yS.fv f a b c l w h n = some ([], e)) := by
  rw [xD.fv_eq, yS.fv_eq, in_spec, in_spec, isRoll_impl, in_spec, isHanging_impl]
  simp only [Option.bind_some]
  cases hw : inB 1 1000 w with
  | false =>
    have any : ∀ q : Bool, ∃ e : Int, e ≠ 0 ∧ yU.fv f a b c l false = some (0, 0, 0, e) ∧ xB.fv f a b c l w q = some (0, 0, e) := by
      intro q
      rcases panels_both (f := f) (a := a) (b := b) (c := c) hl w q with ⟨A, B, C, r, k, lv, s, r1, r2, k0, k1, sr, sd, i, hw'⟩ | ⟨e, he, s, i⟩ | ⟨A, B, C, lv, s, sd, i, hw'⟩
      · rw [hw] at hw'; cases hw'.1
      · rw [hw, Bool.false_and] at s
        exact ⟨e, he, s, i⟩
      · rw [hw] at hw'; cases hw'.1
    cases hh : inB 1 1000 h with
    | false =>
      obtain ⟨e, he, s, i⟩ := any false
      refine .inr ⟨e, he, ?_, ?_⟩
      · simp only [Bool.false_eq_true, if_false, s, Option.bind_some, he]
      · simp only [Bool.false_eq_true, if_false, i, Option.bind_some, he]
    | true =>
      obtain ⟨e, he, s, i⟩ := any (inB 1 100 n)
      refine .inr ⟨e, he, ?_, ?_⟩
      · simp only [Bool.false_eq_true, if_false, s, Option.bind_some, he]
      · simp only [if_true, if_false, i, Option.bind_some, he]
  | true =>
    cases hh : inB 1 1000 h with
    | false =>
      rcases panels_both (f := f) (a := a) (b := b) (c := c) hl w false with ⟨A, B, C, r, k, lv, s, r1, r2, k0, k1, sr, sd, i, hw'⟩ | ⟨e, he, s, i⟩ | ⟨A, B, C, lv, s, sd, i, hw'⟩
      · cases hw'.2
      · rw [Bool.and_false] at s
        refine .inr ⟨e, he, ?_, ?_⟩
        · simp only [if_true, Bool.false_eq_true, if_false, s, Option.bind_some, he]
        · simp only [Bool.false_eq_true, if_false, i, Option.bind_some, he]
      · cases hw'.2
    | true =>
      have hb := inB_iff.1 hh
      rcases panels_both (f := f) (a := a) (b := b) (c := c) hl w (inB 1 100 n) with ⟨A, B, C, r, k, lv, s, r1, r2, k0, k1, sr, sd, i, hw'⟩ | ⟨e, he, s, i⟩ | ⟨A, B, C, lv, s, sd, i, hw'⟩
      · have hn := inB_iff.1 hw'.2
        rw [hw'.2] at i
        obtain ⟨st, si, sl, e1, e2⟩ := starts_both r1 r2 k0 k1 hb.1 hb.2 n hn.1 hn.2
        refine .inl ⟨st, si, sl, hn.1, hn.2, hb.1, hb.2, ?_, ?_⟩
        · simp only [hw'.2, if_true, s, Option.bind_some, sd, sr, e1]
        · simp only [hw'.2, if_true, i, Option.bind_some, e2]
      · rw [hw, Bool.true_and] at s
        refine .inr ⟨e, he, ?_, ?_⟩
        · simp only [if_true, s, Option.bind_some, he, if_false]
        · simp only [if_true, i, Option.bind_some, he, if_false]
      · rw [hw'.2] at i
        refine .inr ⟨4, by decide, ?_, ?_⟩
        · simp only [hw'.2, if_true, s, Option.bind_some, sd, Bool.false_eq_true, if_false]
        · simp only [hw'.2, if_true, i, Option.bind_some]
          rfl
theorem rollLength_both {f a b c : Int} {l : List Int} (hl : l.length ≤ 1048576) (w h n : Int) : ∃ r e : Int, (e = 0 → 0 ≤ r ∧ r ≤ 200000 ∧ 1 ≤ n ∧ n ≤ 100 ∧ 1 ≤ h ∧ h ≤ 1000) ∧ xW.fv f a b c l w h n = some (r, e) ∧ xV.fv f a b c l w h n = some (r, e) := by
  rw [xW.fv_eq, xV.fv_eq]
  rcases panelStarts_both (f := f) (a := a) (b := b) (c := c) hl w h n with ⟨s, si, sl, n1, n2, h1, h2, e1, e2⟩ | ⟨e, he, e1, e2⟩
  · have b := si.bnd (n - 1).toNat (by omega)
    have q1 : wrap64 (n - 1) = (((n - 1).toNat : Nat) : Int) := by rw [w64 (by omega) (by omega)]; omega
    have q2 : (0 : Int) ≤ (((n - 1).toNat : Nat) : Int) := by omega
    have q3 : (((n - 1).toNat : Nat) : Int) < (s.length : Int) := by omega
    have q4 : wrap64 (s.getD (n - 1).toNat 0 + h) = s.getD (n - 1).toNat 0 + h := w64 (by omega) (by omega)
    refine ⟨s.getD (n - 1).toNat 0 + h, 0, fun _ => ⟨by omega, by omega, n1, n2, h1, h2⟩, ?_, ?_⟩
    · simp only [e1, Option.bind_some, if_true, q1, q2, q3, rd_nat', q4]
    · simp only [e2, Option.bind_some, if_true, q1, q2, q3, rd_nat', q4]
  · refine ⟨0, e, fun h => absurd h he, ?_, ?_⟩
    · simp only [e1, Option.bind_some, he, if_false]
    · simp only [e2, Option.bind_some, he, if_false]
end Go.Proofs.Ytioendlbpendpaa.Q
namespace Go.Proofs.Ytioendlbpendpaa.Q
open Go.RowKit Go.Proofs.Ytioendlbpendpaa.X Go.Proofs.YtioendlbpendpaaW.PrintWords Go.Proofs.YtioendlbpendpaaW.PrintMore
theorem markPattern_v (f a b c : Int) (l : List Int) (hl : l.length ≤ 1048576) : xH.fv f a b c l 1 = some (1 + (l.length : Int), marks 1 l.length) := by
  rw [xH.fv_eq, markInts l 1 (by omega) (by omega)]; rfl
end Go.Proofs.Ytioendlbpendpaa.Q
namespace Go.Proofs.Ytioendlbpendpaa.Pure
open Go.RowKit Go.Proofs.Ytioendlbpendpaa.X Go.Proofs.Ytioendlbpendpaa.Q Go.Proofs.YtioendlbpendpaaW.PrintWords
set_option linter.unusedSimpArgs false
set_option linter.unusedVariables false
theorem both (f a b c : Int) (l : List Int) (w h n : Int) (hl : l.length ≤ 1048576) : ∃ (s : List Int) (e : Int), s.length ≤ 100 ∧ xD.fv f a b c l w h n = some (s, e) ∧ yS.fv f a b c l w h n = some (s, e) := by
  rcases panelStarts_both (f := f) (a := a) (b := b) (c := c) hl w h n with ⟨s, si, sl, n1, n2, h1, h2, e1, e2⟩ | ⟨e, he, e1, e2⟩
  · exact ⟨s, 0, by omega, e1, e2⟩
  · exact ⟨[], e, Nat.zero_le _, e1, e2⟩
theorem FnExactPanelStarts : xF.Pure := by
  intro f a b c l w h n ⟨wf, wl, hl, wc⟩ _ _ _
  apply lim_some (xF.f_mono f a b c l w h n)
  show xF.fv f a b c l w h n = some true
  rw [xF.fv_eq, szPattern_v f a b c l hl, Option.bind_some]
  by_cases hs : (l.length : Int) ≤ 1048576
  · rw [if_pos hs, if_neg (by omega)]
    have ht := toPattern_v f a b c l (by omega)
    have e1 := eqPattern_v f a b c l (by omega)
    obtain ⟨s, e, sl, h1, h2⟩ := both f a b c l w h n (by omega)
    have m1 := markPattern_v f a b c l (by omega)
    have q1 := eqInts s s (by omega)
    have m2 := markInts s 1 (by omega) (by omega)
    have n2 := heldInts 1 s.length (by omega) (by omega)
    have p1 : ¬ (1 + (l.length : Int) < 0) := by omega
    have p2 : ¬ (1 + (s.length : Int) < 0) := by omega
    simp only [ht, h1, h2, Option.bind_some, if_true, e1, m1, p1, if_false, q1, m2, n2, p2, decide_true]
  · rw [if_neg hs, if_pos (by omega)]
end Go.Proofs.Ytioendlbpendpaa.Pure
