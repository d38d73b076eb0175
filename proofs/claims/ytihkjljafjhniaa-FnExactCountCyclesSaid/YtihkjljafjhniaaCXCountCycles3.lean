/- What the code computes, and what it means: part 3 of the proof of FnExactCountCycles. No condition of its own. -/
import Derived.Deep.Slices
import Derived.WalkKit
import Derived.OpenShut
import Derived.ShutString
import Derived.ChangeOld
import Derived.SizedLaws
import Derived.Test.YtihkjljafjhniaaCXCountCycles2
namespace Go.Proofs.YtihkjljafjhniaaEv
open Go Go.Proofs
theorem rowL_get (x : Int) : ∀ (n k : Nat), k < n → (rowL x n)[k]? = some (x, (k : Int))
  | n + 1, k, h => by
    simp only [rowL]
    by_cases e : k < n
    · rw [List.getElem?_append_left (by rw [rowL_len]; exact e)]; exact rowL_get x n k e
    · have : k = n := by omega
      subst this
      rw [List.getElem?_append_right (by rw [rowL_len]; omega), rowL_len]
      simp
theorem cellsL_get (c : Nat) (hc : 0 < c) : ∀ (n k : Nat), k < n * c → (cellsL c n)[k]? = some (((k / c : Nat) : Int), ((k % c : Nat) : Int))
  | 0, k, h => by simp at h
  | n + 1, k, h => by
    simp only [cellsL]
    by_cases e : k < n * c
    · rw [List.getElem?_append_left (by rw [cellsL_len]; exact e)]; exact cellsL_get c hc n k e
    · rw [List.getElem?_append_right (by rw [cellsL_len]; omega), cellsL_len]
      rw [Nat.succ_mul] at h
      rw [rowL_get _ _ _ (by omega)]
      have h1 : k / c = n := by
        rw [Nat.div_eq_iff hc]
        refine ⟨by omega, by omega⟩
      have h2 : k % c = k - n * c := by
        have := Nat.div_add_mod k c
        rw [h1, Nat.mul_comm] at this
        omega
      rw [h1, h2]
theorem num_cell {a b c : Int} (hc : 0 < c) {k : Nat} (hk : (k : Int) < a * c) : num a b c ((k / c.toNat : Nat) : Int) ((k % c.toNat : Nat) : Int) = k := by
  obtain ⟨n, rfl⟩ : ∃ n : Nat, c = n := ⟨c.toNat, by omega⟩
  have hn : 0 < n := by omega
  have h1 := Nat.mod_lt k hn
  have h2 := Nat.div_add_mod k n
  have h3 : ((k % n : Nat) : Int) / (n : Int) = 0 := Int.ediv_eq_zero_of_lt (by omega) (by omega)
  have h4 : ((k % n : Nat) : Int) % (n : Int) = (k % n : Nat) := Int.emod_eq_of_lt (by omega) (by omega)
  have h5 : ((k / n : Nat) : Int) < a := by
    rcases Int.lt_or_le ((k / n : Nat) : Int) a with h | h
    · exact h
    · exfalso
      have h6 := Int.mul_le_mul_of_nonneg_right h (show (0 : Int) ≤ n by omega)
      have h7 : ((k / n : Nat) : Int) * (n : Int) = ((n * (k / n) : Nat) : Int) := by rw [Int.mul_comm]; simp
      omega
  simp only [num, redX, Int.toNat_natCast, h3, h4, Int.zero_mul, Int.sub_zero]
  rw [Int.emod_eq_of_lt (Int.natCast_nonneg _) h5]
  have h7 : ((k / n : Nat) : Int) * (n : Int) = ((n * (k / n) : Nat) : Int) := by rw [Int.mul_comm]; simp
  omega
theorem num_range {a b c x y : Int} (ha : 0 < a) (hc : 0 < c) : 0 ≤ num a b c x y ∧ num a b c x y < a * c := by
  have h := red_lt (a := a) (b := b) (c := c) (x := x) (y := y) ha hc
  exact (num_lt' h.1 h.2).2
theorem cell_num {a b c x y : Int} (ha : 0 < a) (hc : 0 < c) : (((num a b c x y).toNat / c.toNat : Nat) : Int) = redX a b c x y ∧ (((num a b c x y).toNat % c.toNat : Nat) : Int) = y % c := by
  have h := red_lt (a := a) (b := b) (c := c) (x := x) (y := y) ha hc
  have h1 := (num_lt' h.1 h.2).2
  have h2 : ((num a b c x y).toNat : Int) = num a b c x y := Int.toNat_of_nonneg h1.1
  have h3 : ((c.toNat : Nat) : Int) = c := Int.toNat_of_nonneg (by omega)
  constructor
  · rw [Int.natCast_ediv, h2, h3]
    unfold num
    rw [Int.add_comm, Int.add_mul_ediv_right _ _ (by omega), Int.ediv_eq_zero_of_lt h.2.1 h.2.2, Int.zero_add]
  · rw [Int.natCast_emod, h2, h3]
    unfold num
    rw [Int.add_comm, Int.add_mul_emod_self_right, Int.emod_eq_of_lt h.2.1 h.2.2]
theorem num_add {a b c x y u v : Int} (hc : 0 < c) : num a b c (redX a b c x y + u) (y % c + v) = num a b c (x + u) (y + v) := by
  have h1 : (y + v) % c = (y % c + v) % c := by rw [Int.emod_add_emod]
  have h2 : (y + v) / c = y / c + (y % c + v) / c := by
    have h3 := Int.mul_ediv_add_emod y c
    rw [show y + v = (y % c + v) + c * (y / c) by omega, Int.add_mul_ediv_left _ _ (by omega)]
    omega
  have h4 : redX a b c (redX a b c x y + u) (y % c + v) = redX a b c (x + u) (y + v) := by
    unfold redX
    rw [h2, Int.add_mul]
    rw [show (x - y / c * b) % a + u - (y % c + v) / c * b = (x - y / c * b) % a + (u - (y % c + v) / c * b) by omega, Int.emod_add_emod]
    congr 1
    omega
  unfold num
  rw [h4, h1]
theorem num_shift {a b c x y u v : Int} (ha : 0 < a) (hc : 0 < c) : num a b c ((((num a b c x y).toNat / c.toNat : Nat) : Int) + u) ((((num a b c x y).toNat % c.toNat : Nat) : Int) + v) = num a b c (x + u) (y + v) := by
  obtain ⟨h1, h2⟩ := cell_num (b := b) (x := x) (y := y) ha hc
  rw [h1, h2, num_add hc]
theorem num_back {a b c u v : Int} (ha : 0 < a) (hc : 0 < c) {k : Nat} (hk : (k : Int) < a * c) : num a b c ((((num a b c ((k / c.toNat : Nat) + u) ((k % c.toNat : Nat) + v)).toNat / c.toNat : Nat) : Int) + -u) ((((num a b c ((k / c.toNat : Nat) + u) ((k % c.toNat : Nat) + v)).toNat % c.toNat : Nat) : Int) + -v) = k := by
  rw [num_shift ha hc]
  rw [show ((k / c.toNat : Nat) : Int) + u + -u = ((k / c.toNat : Nat) : Int) by omega, show ((k % c.toNat : Nat) : Int) + v + -v = ((k % c.toNat : Nat) : Int) by omega]
  exact num_cell hc hk
/-! entries set one behind the other -/
def setN (p : Nat → Bool) (ix : Nat → Nat) (val : Nat → Int) (l : List Int) : Nat → List Int
  | 0 => l
  | n + 1 => if p n = true then (setN p ix val l n).set (ix n) (val n) else setN p ix val l n
theorem setN_len (p : Nat → Bool) (ix : Nat → Nat) (val : Nat → Int) (l : List Int) : ∀ n, (setN p ix val l n).length = l.length
  | 0 => rfl
  | n + 1 => by simp only [setN]; split <;> simp [setN_len p ix val l n]
theorem setN_get {p : Nat → Bool} {ix : Nat → Nat} {val : Nat → Int} {l : List Int} {m j i : Nat} (hj : j < l.length) (hi : i < m) (hix : ∀ k, k < m → (ix k = j ↔ k = i)) : ∀ n, n ≤ m → (setN p ix val l n)[j]? = if i < n ∧ p i = true then some (val i) else l[j]?
  | 0, _ => by simp [setN]
  | n + 1, hn => by
    have ih := setN_get (p := p) (val := val) hj hi hix n (by omega)
    simp only [setN]
    by_cases hp : p n = true
    · rw [if_pos hp]
      by_cases e : ix n = j
      · have := (hix n (by omega)).1 e
        subst this
        rw [e, List.getElem?_set_self (by rw [setN_len]; exact hj), if_pos ⟨by omega, hp⟩]
      · rw [List.getElem?_set_ne e, ih]
        have : n ≠ i := fun h => e ((hix n (by omega)).2 h)
        by_cases h2 : i < n ∧ p i = true
        · rw [if_pos h2, if_pos ⟨by omega, h2.2⟩]
        · rw [if_neg h2, if_neg (fun h => h2 ⟨by omega, h.2⟩)]
    · rw [if_neg hp, ih]
      by_cases h2 : i < n ∧ p i = true
      · rw [if_pos h2, if_pos ⟨by omega, h2.2⟩]
      · rw [if_neg h2, if_neg (fun h => by
          have : i ≠ n := fun e => hp (e ▸ h.2)
          exact h2 ⟨by omega, h.2⟩)]
def mv (a b c u v : Int) (k : Nat) : Nat := (num a b c ((k / c.toNat : Nat) + u) ((k % c.toNat : Nat) + v)).toNat
theorem mv_lt {a b c u v : Int} (ha : 0 < a) (hc : 0 < c) (k : Nat) : mv a b c u v k < (a * c).toNat := by
  have := num_range (b := b) (x := (k / c.toNat : Nat) + u) (y := (k % c.toNat : Nat) + v) ha hc
  unfold mv
  omega
theorem mv_iff {a b c u v : Int} (ha : 0 < a) (hc : 0 < c) {k j : Nat} (hk : (k : Int) < a * c) (hj : (j : Int) < a * c) : mv a b c u v k = j ↔ k = mv a b c (-u) (-v) j := by
  constructor
  · rintro rfl
    have := num_back (b := b) (u := u) (v := v) ha hc hk
    unfold mv
    omega
  · rintro rfl
    have := num_back (b := b) (u := -u) (v := -v) ha hc hj
    rw [Int.neg_neg, Int.neg_neg] at this
    unfold mv
    omega
theorem cell_of {a c x y : Int} {i : Nat} (ha : 1 ≤ a) (hc : 1 ≤ c) (h : (cellsL c.toNat a.toNat)[i]? = some (x, y)) : ((0 ≤ x ∧ x < a) ∧ 0 ≤ y ∧ y < c) ∧ (∀ b u v, mv a b c u v i = (num a b c (x + u) (y + v)).toNat) ∧ x * c + y = i := by
  have hi : i < a.toNat * c.toNat := by
    have := (List.getElem?_eq_some_iff.1 h).1
    rwa [cellsL_len] at this
  rw [cellsL_get _ (by omega) _ _ hi] at h
  simp only [Option.some.injEq, Prod.mk.injEq] at h
  obtain ⟨rfl, rfl⟩ := h
  have h1 := Nat.mod_lt i (show 0 < c.toNat by omega)
  have h2 : i / c.toNat < a.toNat := Nat.div_lt_of_lt_mul (by rw [Nat.mul_comm]; exact hi)
  refine ⟨⟨⟨Int.natCast_nonneg _, by omega⟩, Int.natCast_nonneg _, by omega⟩, fun b u v => rfl, ?_⟩
  have h3 := Nat.div_add_mod i c.toNat
  have h4 : ((i / c.toNat : Nat) : Int) * c = ((c.toNat * (i / c.toNat) : Nat) : Int) := by rw [Int.natCast_mul, Int.toNat_of_nonneg (by omega), Int.mul_comm]
  omega
theorem nat_n {a c : Int} (ha : 1 ≤ a) (hc : 1 ≤ c) {n : Nat} (h : (n : Int) = a * c) : a.toNat * c.toNat = n := by
  have h2 : ((a.toNat * c.toNat : Nat) : Int) = a * c := by rw [Int.natCast_mul, Int.toNat_of_nonneg (by omega), Int.toNat_of_nonneg (by omega)]
  omega
end Go.Proofs.YtihkjljafjhniaaEv
namespace Go.Proofs.YtihkjljafjhniaaEv
open Go Go.Proofs
set_option maxRecDepth 10000
theorem toArgs_shut {h : List Ck} : ∀ {cs : List A}, cs.all A.shut = true → toArgs h cs = some (cs, [])
  | [], _ => rfl
  | c :: cs, hc => by
    simp only [List.all_cons, Bool.and_eq_true] at hc
    have := toArgs_shut (h := h) hc.2
    cases c <;> first | (simp [toArgs, toArg, toArg1, this]; done) | (have := hc.1; cases this)
theorem s_nw (n lo hi : Int) : Sp Try.prog 188 [vi n, .fq [.int .i64 lo], .fq [.int .i64 hi]] (vb (!decide (lo ≤ n ∧ n ≤ hi))) [] := by
  refine sp_of (m := no) mixed Try.func188 k188 ?_
  simp -dsimp [q]
  exact call_of (s_within n lo hi) rfl (by simp) (by simp -dsimp)
theorem s_fi (l : List Int) (f : Nat) (cs : List A) (p : Int → Bool) (h : l.length ≤ 1048576) (hc : cs.all A.shut = true) (hf : ∀ n ∈ l, Sp Try.prog f (vi n :: cs) (vb (p n)) []) : Sp Try.prog 230 [.v (vis l), .fn f cs] (vi (if l.any p = true then l.findIdx p else -1)) [] := by
  refine sp_of (m := no) mixed Try.func230 k230 ?_
  simp -dsimp [q]
  refine awp_it (true :: true :: false :: false :: false :: false :: false :: true :: true :: []) (fun i : Nat => [(8, vi i)]) (fun i => []) (fun i => i ≤ l.length ∧ (l.take i).any p = false) (fun i => l.length - i) 0 ?_
  intro s0 e
  simp -dsimp [hc] at e
  subst e
  refine ⟨?_, ?_⟩
  · simp [hc]
  intro i hi
  simp -dsimp [hc]
  refine ⟨fun h1 => ⟨h1, fun a ha => call_of (rd := []) (hf a (List.mem_of_getElem? ha)) (by simp [toArgs_shut hc]) (by simp) ?_⟩, fun h1 => ?_⟩
  · simp -dsimp [hc]
    have hi2 : ∀ x ∈ l.take i, p x = false := fun x hx => by
      have := List.any_eq_false.1 hi.2 x hx
      simpa using this
    obtain ⟨_, hal⟩ := List.getElem?_eq_some_iff.1 ha
    refine ⟨fun hp => ?_, fun hp => ⟨i + 1, by rw [w64 (by omega) (by omega)]; simp, ⟨by omega, fun x hx => ?_⟩, by omega⟩⟩
    · rw [if_pos ⟨a, List.mem_of_getElem? ha, hp⟩, (List.findIdx_eq h1).2 ⟨by rw [hal]; exact hp, fun j hj => hi2 _ (List.mem_iff_getElem.2 ⟨j, by simp; omega, by simp⟩)⟩]
    · rw [List.take_add_one, ha] at hx
      rcases List.mem_append.1 hx with hx | hx
      · exact hi2 x hx
      · simp at hx; rw [hx]; exact hp
  · have := hi.2
    rw [List.take_of_length_le h1] at this
    intro x hx
    simpa using List.any_eq_false.1 this x hx
theorem s_has (l : List Int) (f : Nat) (cs : List A) (p : Int → Bool) (h : l.length ≤ 1048576) (hc : cs.all A.shut = true) (hf : ∀ n ∈ l, Sp Try.prog f (vi n :: cs) (vb (p n)) []) : Sp Try.prog 187 [.v (vis l), .fn f cs] (vb (l.any p)) [] := by
  refine sp_of (m := no) mixed Try.func187 k187 ?_
  simp -dsimp [q]
  refine call_of (rd := []) (s_fi l f cs p h hc hf) (by simp [hc]) (by simp) ?_
  simp -dsimp
  by_cases hp : l.any p = true
  · rw [hp, if_pos (by simpa using hp)]
    simp
  · rw [if_neg (by simpa using hp)]
    simp at hp
    simpa using hp
theorem s_all (l : List Int) (lo hi : Int) (h : l.length ≤ 1048576) : Sp Try.prog 131 [.v (vis l), vi lo, vi hi] (vb (l.all fun n => decide (lo ≤ n ∧ n ≤ hi))) [] := by
  refine sp_of (m := no) mixed Try.func131 k131 ?_
  simp -dsimp [q]
  refine call_of (rd := []) (s_has l _ _ _ h rfl fun n _ => s_nw n lo hi) rfl (by simp) ?_
  simp -dsimp
  induction l with
  | nil => rfl
  | cons x l ih => simp [ih (by simp at h; omega)]
theorem s_sall (l : List Int) (n lo hi : Int) (h : l.length ≤ 1048576) : Sp Try.prog 133 [.v (vis l), vi n, vi lo, vi hi] (vb ((l.all fun n => decide (lo ≤ n ∧ n ≤ hi)) && decide ((l.length : Int) ≤ n))) [] := by
  refine sp_of (m := no) mixed Try.func133 k133 ?_
  simp -dsimp [q]
  refine awp_it (true :: true :: true :: true :: false :: false :: false :: false :: false :: true :: []) (fun i : Nat => [(9, vi i)]) (fun i => []) (fun i => i ≤ l.length ∧ ∀ x ∈ l.take i, lo ≤ x ∧ x ≤ hi) (fun i => l.length - i) 0 ?_
  intro s0 e
  simp -dsimp at e
  subst e
  refine ⟨?_, ?_⟩
  · simp
  intro i hk
  simp -dsimp
  refine ⟨fun h1 => ⟨h1, fun a ha => call_of (rd := []) (s_in a lo hi) (by simp) (by simp) ?_⟩, fun h1 => ?_⟩
  · generalize hb : decide (lo ≤ a ∧ a ≤ hi) = b
    cases b
    · simp -dsimp
      have hn := of_decide_eq_false hb
      intro hall
      exact absurd (hall a (List.mem_of_getElem? ha)) hn
    · simp -dsimp
      have hn := of_decide_eq_true hb
      refine ⟨i + 1, by rw [w64 (by omega) (by omega)]; simp, ⟨by omega, fun x hx => ?_⟩, by omega⟩
      rw [List.take_add_one, ha] at hx
      rcases List.mem_append.1 hx with hx | hx
      · exact hk.2 x hx
      · simp at hx; rw [hx]; exact hn
  · have h2 := hk.2
    rw [List.take_of_length_le h1] at h2
    exact fun _ => h2
end Go.Proofs.YtihkjljafjhniaaEv
namespace Go.Proofs.YtihkjljafjhniaaEv
open Go Go.Proofs
set_option maxRecDepth 10000
abbrev aP (f a b c : Int) (l : List Int) : A := .v (.ag [.int .i64 f, .int .i64 a, .int .i64 b, .int .i64 c, vis l])
abbrev oP (f a b c : Int) (i : Nat) : A := .ag [vi f, vi a, vi b, vi c, .sli i]
def okP (f a b c : Int) (l : List Int) : Bool := decide (0 ≤ f ∧ f ≤ 1) && okL a b c && decide ((l.length : Int) = a * c) && l.all fun n => decide (0 ≤ n ∧ n ≤ 9)
theorem okP_spec {f a b c : Int} {l : List Int} : okP f a b c l = true ↔ (0 ≤ f ∧ f ≤ 1) ∧ okL a b c = true ∧ (l.length : Int) = a * c ∧ ∀ n ∈ l, 0 ≤ n ∧ n ≤ 9 := by
  simp [okP, and_assoc]
theorem s_isFr (f : Int) : Sp Try.prog 147 [vi f] (vb (decide (0 ≤ f ∧ f ≤ 1))) [] := by
  refine sp_of (m := no) mixed Try.func147 k147 ?_
  simp -dsimp [q]
  refine call_of (s_within _ _ _) rfl (by simp) ?_
  try simp -dsimp
  try (first | exact fp_one (by decide) | refine fp_and (by decide) ?_)
theorem s_sisFr (f : Int) : Sp Try.prog 193 [vi f] (vb (decide (0 ≤ f ∧ f ≤ 1))) [] := by
  refine sp_of (m := no) mixed Try.func193 k193 ?_
  simp -dsimp [q]
  by_cases h : f = 0
  · subst h; simp
  · by_cases h1 : f = 1
    · subst h1; simp
    · simp [h, h1]
      intro h2; omega
theorem s_isP (f a b c : Int) (l : List Int) (hl : l.length ≤ 1048576) : Sp Try.prog 77 [aP f a b c l] (vb (okP f a b c l)) [] := by
  refine sp_of (m := no) mixed Try.func77 k77 ?_
  have w1 := s_isFr f
  have w2 := s_isL a b c
  have w4 := s_all l 0 9 hl
  simp -dsimp [q]
  by_cases h1 : 0 ≤ f ∧ f ≤ 1
  case neg =>
    rw [decide_eq_false h1] at w1
    refine call_of (w1) rfl (by simp) ?_
    try simp -dsimp
    try (first | exact fp_one (by decide) | refine fp_and (by decide) ?_)
    simp only [okP, decide_eq_false h1, Bool.false_and]
  rw [decide_eq_true h1] at w1
  refine call_of (w1) rfl (by simp) ?_
  try simp -dsimp
  try (first | exact fp_one (by decide) | refine fp_and (by decide) ?_)
  by_cases h2 : okL a b c = true
  case neg =>
    simp only [Bool.not_eq_true] at h2
    rw [h2] at w2
    refine call_of (w2) rfl (by simp) ?_
    try simp -dsimp
    try (first | exact fp_one (by decide) | refine fp_and (by decide) ?_)
    simp only [okP, h2, Bool.and_false, Bool.false_and]
  rw [h2] at w2
  refine call_of (w2) rfl (by simp) ?_
  try simp -dsimp
  try (first | exact fp_one (by decide) | refine fp_and (by decide) ?_)
  obtain ⟨ha, hc, _⟩ := okL_spec.1 h2
  refine call_of (s_index a b c ha hc) rfl (by simp) ?_
  try simp -dsimp
  try (first | exact fp_one (by decide) | refine fp_and (by decide) ?_)
  refine ⟨fun e => ?_, fun e => by simp only [okP, decide_eq_false e, Bool.and_false, Bool.false_and]⟩
  refine call_of (w4) rfl (by simp) ?_
  try simp -dsimp
  try (first | exact fp_one (by decide) | refine fp_and (by decide) ?_)
  simp only [okP, decide_eq_true h1, h2, decide_eq_true e, Bool.true_and, Bool.decide_and]
theorem s_scode (f a b c : Int) : Sp Try.prog 142 [vi f, aL a b c] (vi (if 0 ≤ f ∧ f ≤ 1 ∧ okL a b c = true then 0 else 1)) [] := by
  refine sp_of (m := no) mixed Try.func142 k142 ?_
  have w1 := s_sisFr f
  have w2 := s_sisL a b c
  simp -dsimp [q]
  by_cases h1 : 0 ≤ f ∧ f ≤ 1
  case neg =>
    rw [decide_eq_false h1] at w1
    rw [if_neg (fun h => h1 ⟨h.1, h.2.1⟩)]
    refine call_of (w1) rfl (by simp) ?_
    try simp -dsimp
    try (first | exact fp_one (by decide) | refine fp_and (by decide) ?_)
  rw [decide_eq_true h1] at w1
  refine call_of (w1) rfl (by simp) ?_
  try simp -dsimp
  try (first | exact fp_one (by decide) | refine fp_and (by decide) ?_)
  refine call_of (w2) rfl (by simp) ?_
  try simp -dsimp
  try (first | exact fp_one (by decide) | refine fp_and (by decide) ?_)
  by_cases h2 : okL a b c = true
  · simp [h1, h2]
  · simp [h2]
theorem s_sisP (f a b c : Int) (l : List Int) (hl : l.length ≤ 1048576) : Sp Try.prog 71 [aP f a b c l] (vb (okP f a b c l)) [] := by
  refine sp_of (m := no) mixed Try.func71 k71 ?_
  have w1 := s_scode f a b c
  have w4 := s_sall l 64 0 9 hl
  simp -dsimp [q]
  by_cases h1 : 0 ≤ f ∧ f ≤ 1 ∧ okL a b c = true
  case neg =>
    rw [if_neg h1] at w1
    refine call_of (w1) rfl (by simp) ?_
    try simp -dsimp
    try (first | exact fp_one (by decide) | refine fp_and (by decide) ?_)
    have : (decide (0 ≤ f ∧ f ≤ 1) && okL a b c) = false := by
      rw [Bool.eq_false_iff]; intro h; simp only [Bool.and_eq_true, decide_eq_true_eq] at h; exact h1 ⟨h.1.1, h.1.2, h.2⟩
    simp only [okP, this, Bool.false_and]
  rw [if_pos h1] at w1
  refine call_of (w1) rfl (by simp) ?_
  try simp -dsimp
  try (first | exact fp_one (by decide) | refine fp_and (by decide) ?_)
  obtain ⟨ha, hc, _, hac⟩ := okL_spec.1 h1.2.2
  have h4 := ac_pos ha.1 hc.1
  rw [w64 (by omega) (by omega)]
  refine ⟨fun e => ?_, fun e => by simp only [okP, decide_eq_false e, Bool.and_false, Bool.false_and]⟩
  refine call_of (w4) rfl (by simp) ?_
  try simp -dsimp
  try (first | exact fp_one (by decide) | refine fp_and (by decide) ?_)
  simp only [okP, decide_eq_true (show 0 ≤ f ∧ f ≤ 1 from ⟨h1.1, h1.2.1⟩), h1.2.2, decide_eq_true e, Bool.true_and, decide_eq_true (show (l.length : Int) ≤ 64 by omega), Bool.and_true, Bool.decide_and]
theorem s_at (f a b c x y : Int) (l : List Int) (hf : okP f a b c l = true) (hx : -1000000000 ≤ x ∧ x ≤ 1000000000) (hy : -1000000000 ≤ y ∧ y ≤ 1000000000) : Sp Try.prog 136 [aP f a b c l, aV x y] (vi (l.getD (num a b c x y).toNat 0)) [] := by
  refine sp_of (m := no) mixed Try.func136 k136 ?_
  obtain ⟨_, h2, h3, _⟩ := okP_spec.1 hf
  obtain ⟨ha, hc, hb, hac⟩ := okL_spec.1 h2
  have h0 := red_lt (b := b) (x := x) (y := y) ha.1 hc.1
  have h := num_lt' h0.1 h0.2
  simp -dsimp [q]
  refine call_of (s_reduce _ _ _ _ _ ha hb hc hx hy) rfl (by simp) ?_
  try simp -dsimp
  try (first | exact fp_one (by decide) | refine fp_and (by decide) ?_)
  refine call_of (s_number _ _ _ _ _ hc (by omega) h0.2) rfl (by simp) ?_
  try simp -dsimp
  try (first | exact fp_one (by decide) | refine fp_and (by decide) ?_)
  refine ⟨⟨by omega, by omega⟩, fun z hz => ?_⟩
  simp [num, hz]
theorem s_sat (f a b c x y : Int) (l : List Int) (hf : okP f a b c l = true) (hx : -1000000000 ≤ x ∧ x ≤ 1000000000) (hy : -1000000000 ≤ y ∧ y ≤ 1000000000) : Sp Try.prog 204 [aP f a b c l, aV x y] (vi (l.getD (num a b c x y).toNat 0)) [] := by
  refine sp_of (m := no) mixed Try.func204 k204 ?_
  obtain ⟨_, h2, h3, _⟩ := okP_spec.1 hf
  obtain ⟨ha, hc, hb, hac⟩ := okL_spec.1 h2
  have h0 := red_lt (b := b) (x := x) (y := y) ha.1 hc.1
  have h := num_lt' h0.1 h0.2
  simp -dsimp [q]
  refine call_of (s_snumber _ _ _ _ _ ha hb hc hx hy) rfl (by simp) ?_
  try simp -dsimp
  try (first | exact fp_one (by decide) | refine fp_and (by decide) ?_)
  unfold num at *
  refine ⟨⟨by omega, by omega⟩, fun z hz => ?_⟩
  simp [num, hz]
end Go.Proofs.YtihkjljafjhniaaEv
namespace Go.Proofs.YtihkjljafjhniaaEv
open Go Go.Proofs
set_option maxRecDepth 10000
abbrev M4 := Int × Int × Int × Int
def vm (m : M4) : V := .ag [.int .i64 m.1, .int .i64 m.2.1, .int .i64 m.2.2.1, .int .i64 m.2.2.2]
def ms (l : List M4) : List V := l.map vm
abbrev aM4 (m : M4) : A := aM m.1 m.2.1 m.2.2.1 m.2.2.2
@[simp] theorem ms_nil : ms [] = [] := rfl
@[simp] theorem ms_len (l : List M4) : (ms l).length = l.length := by simp [ms]
@[simp] theorem ms_get (l : List M4) (n : Nat) (K : V → Prop) : fA ((ms l)[n]?) K = ∀ m, l[n]? = some m → K (.ag [.int .i64 m.1, .int .i64 m.2.1, .int .i64 m.2.2.1, .int .i64 m.2.2.2]) := by unfold ms; exact fA_map
@[simp] theorem ms_app (l : List M4) (a b c d : Int) : ms l ++ [.ag [.int .i64 a, .int .i64 b, .int .i64 c, .int .i64 d]] = ms (l ++ [(a, b, c, d)]) := by simp [ms, vm]
@[simp] theorem ms_set (l : List M4) (n : Nat) (a b c d : Int) : (ms l).set n (.ag [.int .i64 a, .int .i64 b, .int .i64 c, .int .i64 d]) = ms (l.set n (a, b, c, d)) := by simp [ms, vm, List.map_set]
@[simp] theorem ms_take (l : List M4) (n : Nat) : (ms l).take n = ms (l.take n) := by simp [ms, List.map_take]
@[simp] theorem ms_drop (l : List M4) (n : Nat) : (ms l).drop n = ms (l.drop n) := by simp [ms, List.map_drop]
@[simp] theorem ms_flat (l : List M4) : (∀ x, x ∈ ms l → x.flat = true) ↔ True := by
  simp only [iff_true]
  intro x hx
  obtain ⟨y, _, rfl⟩ := List.mem_map.1 hx
  rfl
theorem vm_inj {m n : M4} (h : vm m = vm n) : m = n := by
  obtain ⟨a, b, c, d⟩ := m
  obtain ⟨a', b', c', d'⟩ := n
  simp only [vm, V.ag.injEq, List.cons.injEq, V.int.injEq, true_and, and_true] at h
  obtain ⟨rfl, rfl, rfl, rfl⟩ := h
  rfl
@[simp] theorem ms_inj (a b : List M4) : ms a = ms b ↔ a = b := by
  constructor
  · exact fun h => (List.map_inj_right (fun x y e => vm_inj e)).1 h
  · rintro rfl; rfl
abbrev vms (l : List M4) : V := .sl 4 (ms l)
theorem s_fiM (l : List M4) (f : Nat) (cs : List A) (p : M4 → Bool) (h : l.length ≤ 1048576) (hc : cs.all A.shut = true) (hf : ∀ v ∈ l, Sp Try.prog f (aM4 v :: cs) (vb (p v)) []) : Sp Try.prog 234 [.v (vms l), .fn f cs] (vi (if l.any p = true then l.findIdx p else -1)) [] := by
  refine sp_of (m := no) mixed Try.func234 k234 ?_
  simp -dsimp [q, -Prod.forall, -Prod.exists]
  refine awp_it (true :: true :: false :: false :: false :: false :: false :: true :: true :: []) (fun i : Nat => [(8, vi i)]) (fun i => []) (fun i => i ≤ l.length ∧ ∀ x ∈ l.take i, p x = false) (fun i => l.length - i) 0 ?_
  intro s0 e
  simp -dsimp [hc] at e
  subst e
  refine ⟨?_, ?_⟩
  · simp [hc]
  rintro i ⟨hi, hi2⟩
  simp -dsimp [hc, -Prod.forall, -Prod.exists]
  refine ⟨fun h1 => ⟨h1, fun x ha => call_of (rd := []) (hf x (List.mem_of_getElem? ha)) (by simp [toArgs_shut hc]) (by simp) ?_⟩, fun h1 => ?_⟩
  · simp -dsimp [hc, -Prod.forall, -Prod.exists]
    obtain ⟨_, hal⟩ := List.getElem?_eq_some_iff.1 ha
    refine ⟨fun hp => ?_, fun hp => ⟨i + 1, by rw [w64 (by omega) (by omega)]; simp, ⟨by omega, fun x' hx => ?_⟩, by omega⟩⟩
    · rw [if_pos ⟨x, List.mem_of_getElem? ha, hp⟩, (List.findIdx_eq h1).2 ⟨by rw [hal]; exact hp, fun j hj => hi2 _ (List.mem_iff_getElem.2 ⟨j, by simp; omega, by simp⟩)⟩]
    · rw [List.take_add_one, ha] at hx
      rcases List.mem_append.1 hx with hx | hx
      · exact hi2 _ hx
      · simp only [Option.toList_some, List.mem_singleton] at hx; rw [hx]; exact hp
  · rw [List.take_of_length_le h1] at hi2
    exact hi2
theorem s_delM0 (l : List M4) (f : Nat) (cs : List A) (p : M4 → Bool) (t : Nat) (h : l.length ≤ 1048576) (hc : cs.all A.shut = true) (hf : ∀ v ∈ l, Sp Try.prog f (aM4 v :: cs) (vb (p v)) []) (hno : l.any p = false) : SpG Try.prog 206 [.sli 0, .fn f cs] [.row 4 t (ms l)] (.sli 0) [.row 4 t (ms l)] := by
  have w := s_fiM l f cs p h hc hf
  rw [if_neg (by rw [hno]; simp)] at w
  refine sg_of (m := no) mixed Try.func206 k206 ?_
  simp -dsimp [q]
  refine call_of (rd := [0]) w (by simp [hc]) (by simp) ?_
  simp -dsimp [hc]
def keptM (p : M4 → Bool) (l : List M4) (j : Nat) : List M4 := (l.take j).filter fun v => !p v
theorem keptM_succ {p : M4 → Bool} {l : List M4} {j : Nat} {x : M4} (hx : l[j]? = some x) : keptM p l (j + 1) = keptM p l j ++ if p x = true then [] else [x] := by
  unfold keptM
  rw [List.take_add_one, hx, List.filter_append]
  cases h : p x <;> simp [h]
theorem keptM_first {p : M4 → Bool} {l : List M4} (h : l.any p = true) : keptM p l (l.findIdx p + 1) = l.take (l.findIdx p) ∧ l.findIdx p < l.length := by
  have hlt : l.findIdx p < l.length := List.findIdx_lt_length.2 (by simpa using h)
  have hx := List.getElem?_eq_getElem hlt
  have hp : p l[l.findIdx p] = true := List.findIdx_getElem
  refine ⟨?_, hlt⟩
  rw [keptM_succ hx, if_pos hp, List.append_nil]
  unfold keptM
  rw [List.filter_eq_self]
  intro x hx
  obtain ⟨j, hj, rfl⟩ := List.mem_take_iff_getElem.1 hx
  have := List.not_of_lt_findIdx (p := p) (xs := l) (i := j) (by omega)
  simp [this]
theorem s_delM1 (l : List M4) (f : Nat) (cs : List A) (p : M4 → Bool) (t : Nat) (h : l.length ≤ 1048576) (hc : cs.all A.shut = true) (hf : ∀ v ∈ l, Sp Try.prog f (aM4 v :: cs) (vb (p v)) []) (hyes : l.any p = true) : SpG Try.prog 206 [.sli 0, .fn f cs] [.row 4 t (ms l)] (.sli 1) [.gone, .row 4 t (ms (l.filter fun v => !p v))] := by
  have w := s_fiM l f cs p h hc hf
  rw [if_pos hyes] at w
  refine sg_of (m := fun f => f == 1000000) mixed Try.func206 k206 ?_
  simp -dsimp [q]
  refine call_of (rd := [0]) w (by simp [hc]) (by simp) ?_
  simp -dsimp [hc]
  obtain ⟨k1, k2⟩ := keptM_first hyes
  rw [w64 (by omega) (by omega)]
  refine awp_it (true :: true :: false :: false :: false :: true :: true :: []) (fun s : Nat × List M4 => [(5, vi (keptM p l s.1).length), (6, vi s.1)]) (fun s => [(0, .row 4 t (ms s.2))]) (fun s => s.2.length = l.length ∧ s.2.take (keptM p l s.1).length = keptM p l s.1 ∧ s.2.drop s.1 = l.drop s.1 ∧ s.1 ≤ l.length ∧ (keptM p l s.1).length < s.1) (fun s => l.length - s.1) (l.findIdx p + 1, l) ?_
  intro s0 e
  simp -dsimp [hc] at e
  subst e
  refine ⟨?_, ?_⟩
  · simp [hc, k1]
    omega
  rintro ⟨j, r⟩ ⟨r1, r2, r3, r4, r5⟩
  simp -dsimp [hc, r1, -Prod.forall, -Prod.exists]
  simp only at r1 r2 r3 r4 r5
  refine ⟨fun h1 => ?_, fun h1 => ?_⟩
  · refine ⟨h1, fun x hx => ?_⟩
    have hlx : l[j]? = some x := by
      have e := congrArg (fun l => l[0]?) r3
      simp only [List.getElem?_drop, Nat.add_zero] at e
      rw [← e, hx]
    have hk := keptM_succ (p := p) hlx
    have hr3 : r.drop (j + 1) = l.drop (j + 1) := by
      have e := congrArg (List.drop 1) r3
      simpa [List.drop_drop, Nat.add_comm] using e
    refine call_of (rd := []) (hf x (List.mem_of_getElem? hlx)) (by simp [toArgs_shut hc]) (by simp) ?_
    simp -dsimp [hc, r1, -Prod.forall, -Prod.exists]
    refine ⟨fun hp => ?_, fun hp => ?_⟩
    · rw [if_neg (by simp [hp])] at hk
      have hi : (keptM p l j).length < r.length := by omega
      have ht : (r.set (keptM p l j).length x).take ((keptM p l j).length + 1) = keptM p l j ++ [x] := by
        rw [List.take_add_one, List.take_set_of_le (Nat.le_refl _), r2, List.getElem?_set_self hi]
        rfl
      refine ⟨by omega, (j + 1, r.set (keptM p l j).length x), ⟨⟨?_, by rw [w64 (by omega) (by omega)]; simp⟩, rfl⟩, ⟨by simp [r1], ?_, ?_, by simp only; omega, ?_⟩, by simp only; omega⟩
      · simp only [hk, List.length_append, List.length_singleton]
        rw [w64 (by omega) (by omega)]; simp
      · simp only [hk, List.length_append, List.length_singleton]
        exact ht
      · simp only
        rw [List.drop_set_of_lt (by omega), hr3]
      · simp only [hk, List.length_append, List.length_singleton]
        omega
    · rw [if_pos hp, List.append_nil] at hk
      refine ⟨(j + 1, r), ⟨⟨by simp only [hk], by rw [w64 (by omega) (by omega)]; simp⟩, rfl⟩, ⟨r1, by simp only [hk]; exact r2, hr3, by simp only; omega, by simp only [hk]; omega⟩, by simp only; omega⟩
  · have e1 : keptM p l j = l.filter fun v => !p v := by unfold keptM; rw [List.take_of_length_le h1]
    refine ⟨by omega, by omega, by omega, ?_⟩
    rw [r2, ← e1, List.take_left' (by simp)]
end Go.Proofs.YtihkjljafjhniaaEv
namespace Go.Proofs.YtihkjljafjhniaaEv
open Go Go.Proofs
set_option maxRecDepth 10000
def normF (f x y : Int) : Int := x * x + f * x * y + y * y
theorem normF_bd {f x y : Int} (hf : 0 ≤ f ∧ f ≤ 1) (hx : x.natAbs ≤ 10000) (hy : y.natAbs ≤ 10000) : (x * x).natAbs ≤ 100000000 ∧ (f * x).natAbs ≤ 10000 ∧ (f * x * y).natAbs ≤ 100000000 ∧ (y * y).natAbs ≤ 100000000 ∧ (x * y).natAbs ≤ 100000000 := by
  have h1 := mul_bd hx hx
  have h2 := mul_bd (show f.natAbs ≤ 1 by omega) hx
  have h3 := mul_bd h2 hy
  have h4 := mul_bd hy hy
  have h5 := mul_bd hx hy
  exact ⟨by omega, by omega, by omega, by omega, by omega⟩
theorem s_norm (f x y : Int) (hf : 0 ≤ f ∧ f ≤ 1) (hx : x.natAbs ≤ 10000) (hy : y.natAbs ≤ 10000) : Sp Try.prog 235 [vi f, aV x y] (vi (normF f x y)) [] := by
  refine sp_of (m := no) mixed Try.func235 k235 ?_
  obtain ⟨h1, h2, h3, h4, _⟩ := normF_bd hf hx hy
  simp -dsimp [q]
  rw [w64 (n := x * x) (by omega) (by omega), w64 (n := f * x) (by omega) (by omega), w64 (n := f * x * y) (by omega) (by omega), w64 (n := y * y) (by omega) (by omega), w64 (n := x * x + f * x * y) (by omega) (by omega), w64 (by omega) (by omega)]
  rfl
theorem s_snorm (f x y : Int) (hf : 0 ≤ f ∧ f ≤ 1) (hx : x.natAbs ≤ 10000) (hy : y.natAbs ≤ 10000) : Sp Try.prog 238 [vi f, aV x y] (vi (normF f x y)) [] := by
  refine sp_of (m := no) mixed Try.func238 k238 ?_
  obtain ⟨h1, h2, h3, h4, h5⟩ := normF_bd hf hx hy
  simp -dsimp [q]
  rw [w64 (n := x * x) (by omega) (by omega), w64 (n := y * y) (by omega) (by omega), w64 (n := x * y) (by omega) (by omega), w64 (n := x * x + y * y) (by omega) (by omega), w64 (by omega) (by omega)]
  unfold normF
  refine ⟨fun e => ?_, fun e => ?_⟩
  · subst e
    rw [Int.one_mul]
    omega
  · have : f = 0 := by omega
    subst this
    simp
def pmOk (f : Int) (m : M4) : Bool := decide (normF f m.1 m.2.2.1 = 1) && decide (normF f m.2.1 m.2.2.2 = 1) && decide (normF f (m.1 + m.2.1) (m.2.2.1 + m.2.2.2) = 2 + f)
theorem s_skeeps (f a b c d : Int) (hf : 0 ≤ f ∧ f ≤ 1) (hm : (a.natAbs ≤ 1000 ∧ b.natAbs ≤ 1000) ∧ c.natAbs ≤ 1000 ∧ d.natAbs ≤ 1000) : Sp Try.prog 211 [vi f, aM a b c d] (vb (pmOk f (a, b, c, d))) [] := by
  refine sp_of (m := no) mixed Try.func211 k211 ?_
  have w1 := s_snorm f a c hf (by omega) (by omega)
  have w2 := s_snorm f b d hf (by omega) (by omega)
  have w3 := s_snorm f (a + b) (c + d) hf (by omega) (by omega)
  simp -dsimp [q]
  refine ⟨by decide, ?_⟩
  refine call_of (w1) rfl (by simp) ?_
  try simp -dsimp
  try (first | exact fp_one (by decide) | refine fp_and (by decide) ?_)
  refine ⟨fun e1 => ?_, fun e1 => ?_⟩
  · refine call_of (w2) rfl (by simp) ?_
    try simp -dsimp
    try (first | exact fp_one (by decide) | refine fp_and (by decide) ?_)
    refine ⟨fun e2 => ?_, fun e2 => ?_⟩
    · refine call_of (s_sadd _ _ _ _ (by omega) (by omega) (by omega) (by omega)) rfl (by simp) ?_
      try simp -dsimp
      try (first | exact fp_one (by decide) | refine fp_and (by decide) ?_)
      refine call_of (w3) rfl (by simp) ?_
      try simp -dsimp
      try (first | exact fp_one (by decide) | refine fp_and (by decide) ?_)
      rw [w64 (by omega) (by omega)]
      simp only [pmOk, decide_eq_true e1, decide_eq_true e2, Bool.true_and]
    · simp only [pmOk, decide_eq_false e2, Bool.and_false, Bool.false_and]
  · simp only [pmOk, decide_eq_false e1, Bool.false_and]
def matOk (a b c d : Int) : Bool := okV a b && okV c d && (decide (a * d - b * c = 1) || decide (a * d - b * c = -1))
theorem s_ssmall (a b c d : Int) : Sp Try.prog 236 [aM a b c d] (vb (okV a b && okV c d)) [] := by
  refine sp_of (m := no) mixed Try.func236 k236 ?_
  have w1 := s_sisVec a b
  have w2 := s_sisVec c d
  generalize okV a b = p at *
  generalize okV c d = r at *
  simp -dsimp [q]
  refine call_of (w1) rfl (by simp) ?_
  cases p
  · simp -dsimp
  · simp -dsimp
    refine call_of (w2) rfl (by simp) ?_
    try simp -dsimp
    try (first | exact fp_one (by decide) | refine fp_and (by decide) ?_)
theorem s_sdet (a b c d : Int) (hm : (a.natAbs ≤ 1000 ∧ b.natAbs ≤ 1000) ∧ c.natAbs ≤ 1000 ∧ d.natAbs ≤ 1000) : Sp Try.prog 237 [aM a b c d] (vi (a * d - b * c)) [] := by
  refine sp_of (m := no) mixed Try.func237 k237 ?_
  have h1 := mul_bd hm.1.1 hm.2.2
  have h2 := mul_bd hm.1.2 hm.2.1
  simp -dsimp [q]
  rw [w64 (n := a * d) (by omega) (by omega), w64 (n := b * c) (by omega) (by omega), w64 (by omega) (by omega)]
theorem s_sisM (a b c d : Int) : Sp Try.prog 210 [aM a b c d] (vb (matOk a b c d)) [] := by
  refine sp_of (m := no) mixed Try.func210 k210 ?_
  have w1 := s_ssmall a b c d
  unfold matOk
  by_cases h : (okV a b && okV c d) = true
  · have h' := h
    simp only [Bool.and_eq_true, okV_spec] at h'
    have w2 := s_sdet a b c d ⟨⟨by omega, by omega⟩, by omega, by omega⟩
    rw [h] at w1 ⊢
    generalize a * d - b * c = e at *
    simp -dsimp [q]
    refine call_of (w1) rfl (by simp) ?_
    try simp -dsimp
    try (first | exact fp_one (by decide) | refine fp_and (by decide) ?_)
    refine call_of (w2) rfl (by simp) ?_
    try simp -dsimp
    try (first | exact fp_one (by decide) | refine fp_and (by decide) ?_)
    refine ⟨fun e1 => ?_, fun e1 => by simp [e1]⟩
    refine call_of (w2) rfl (by simp) ?_
    try simp -dsimp
    try (first | exact fp_one (by decide) | refine fp_and (by decide) ?_)
    simp [e1]
  · simp only [Bool.not_eq_true] at h
    rw [h] at w1 ⊢
    simp -dsimp [q]
    refine call_of (w1) rfl (by simp) ?_
    try simp -dsimp
    try (first | exact fp_one (by decide) | refine fp_and (by decide) ?_)
theorem matOk_small {a b c d : Int} (h : matOk a b c d = true) : (a.natAbs ≤ 1000 ∧ b.natAbs ≤ 1000) ∧ c.natAbs ≤ 1000 ∧ d.natAbs ≤ 1000 := by
  simp only [matOk, Bool.and_eq_true, okV_spec] at h
  omega
theorem s_sisPM (f a b c d : Int) : Sp Try.prog 167 [vi f, aM a b c d] (vb (decide (0 ≤ f ∧ f ≤ 1) && matOk a b c d && pmOk f (a, b, c, d))) [] := by
  refine sp_of (m := no) mixed Try.func167 k167 ?_
  have w1 := s_sisFr f
  have w2 := s_sisM a b c d
  by_cases h1 : 0 ≤ f ∧ f ≤ 1
  · rw [decide_eq_true h1] at w1 ⊢
    by_cases h2 : matOk a b c d = true
    · have w3 := s_skeeps f a b c d h1 (matOk_small h2)
      rw [h2] at w2 ⊢
      generalize pmOk f (a, b, c, d) = r at *
      simp -dsimp [q]
      refine call_of (w1) rfl (by simp) ?_
      try simp -dsimp
      try (first | exact fp_one (by decide) | refine fp_and (by decide) ?_)
      refine call_of (w2) rfl (by simp) ?_
      try simp -dsimp
      try (first | exact fp_one (by decide) | refine fp_and (by decide) ?_)
      refine call_of (w3) rfl (by simp) ?_
      try simp -dsimp
      try (first | exact fp_one (by decide) | refine fp_and (by decide) ?_)
    · simp only [Bool.not_eq_true] at h2
      rw [h2] at w2 ⊢
      simp -dsimp [q]
      refine call_of (w1) rfl (by simp) ?_
      try simp -dsimp
      try (first | exact fp_one (by decide) | refine fp_and (by decide) ?_)
      refine call_of (w2) rfl (by simp) ?_
      try simp -dsimp
      try (first | exact fp_one (by decide) | refine fp_and (by decide) ?_)
  · rw [decide_eq_false h1] at w1 ⊢
    simp -dsimp [q]
    refine call_of (w1) rfl (by simp) ?_
    try simp -dsimp
    try (first | exact fp_one (by decide) | refine fp_and (by decide) ?_)
/-! all of a frame -/
def mat81 (k : Nat) : M4 := ((k : Int) / 27 - 1, (k : Int) / 9 % 3 - 1, (k : Int) / 3 % 3 - 1, (k : Int) % 3 - 1)
def pmL (f : Int) (n : Nat) : List M4 := ((List.range n).map mat81).filter fun m => pmOk f m
theorem pmL_succ (f : Int) (n : Nat) : pmL f (n + 1) = pmL f n ++ if pmOk f (mat81 n) = true then [mat81 n] else [] := by
  unfold pmL
  rw [List.range_succ, List.map_append, List.filter_append]
  cases h : pmOk f (mat81 n) <;> simp [h]
theorem pmL_len (f : Int) (n : Nat) : (pmL f n).length ≤ n := by
  unfold pmL
  exact Nat.le_trans (List.length_filter_le _ _) (by simp)
theorem s_pm (f : Int) (hf : 0 ≤ f ∧ f ≤ 1) : Sp Try.prog 207 [vi f] (.sli 0) [.row 4 61 (ms (pmL f 81))] := by
  refine sp_of (m := no) mixed Try.func207 k207 ?_
  simp -dsimp [q]
  refine awp_it (true :: false :: false :: true :: false :: false :: false :: false :: false :: false :: true :: []) (fun i : Nat => [(10, vi i)]) (fun i => [(0, .row 4 61 (ms (pmL f i)))]) (fun i => i ≤ 81) (fun i => 81 - i) 0 ?_
  intro s0 e
  simp -dsimp at e
  subst e
  refine ⟨?_, ?_⟩
  · simp [pmL]
  intro i hi
  have hlen := pmL_len f i
  have hs := pmL_succ f i
  have a1 : IntKind.i64.wrap ((i : Int) / 27) = (i : Int) / 27 := w64 (by omega) (by omega)
  have a2 : IntKind.i64.wrap ((i : Int) / 9) = (i : Int) / 9 := w64 (by omega) (by omega)
  have a3 : IntKind.i64.wrap ((i : Int) / 3) = (i : Int) / 3 := w64 (by omega) (by omega)
  have b2 : ((i : Int) / 9).tmod 3 = (i : Int) / 9 % 3 := Int.tmod_eq_emod_of_nonneg (by omega)
  have b3 : ((i : Int) / 3).tmod 3 = (i : Int) / 3 % 3 := Int.tmod_eq_emod_of_nonneg (by omega)
  have b4 : (i : Int).tmod 3 = (i : Int) % 3 := Int.tmod_eq_emod_of_nonneg (by omega)
  have c1 : IntKind.i64.wrap ((i : Int) / 27 - 1) = (i : Int) / 27 - 1 := w64 (by omega) (by omega)
  have c2 : IntKind.i64.wrap ((i : Int) / 9 % 3 - 1) = (i : Int) / 9 % 3 - 1 := w64 (by omega) (by omega)
  have c3 : IntKind.i64.wrap ((i : Int) / 3 % 3 - 1) = (i : Int) / 3 % 3 - 1 := w64 (by omega) (by omega)
  have c4 : IntKind.i64.wrap ((i : Int) % 3 - 1) = (i : Int) % 3 - 1 := w64 (by omega) (by omega)
  have d1 : -1 ≤ (i : Int) / 27 - 1 ∧ ((i : Int) < 81 → (i : Int) / 27 - 1 ≤ 1) := ⟨by omega, by omega⟩
  have d2 : -1 ≤ (i : Int) / 9 % 3 - 1 ∧ (i : Int) / 9 % 3 - 1 ≤ 1 := ⟨by omega, by omega⟩
  have d3 : -1 ≤ (i : Int) / 3 % 3 - 1 ∧ (i : Int) / 3 % 3 - 1 ≤ 1 := ⟨by omega, by omega⟩
  have d4 : -1 ≤ (i : Int) % 3 - 1 ∧ (i : Int) % 3 - 1 ≤ 1 := ⟨by omega, by omega⟩
  have hmat : mat81 i = ((i : Int) / 27 - 1, (i : Int) / 9 % 3 - 1, (i : Int) / 3 % 3 - 1, (i : Int) % 3 - 1) := rfl
  simp -dsimp [a1, a2, a3, b2, b3, b4, c1, c2, c3, c4]
  refine ⟨fun h1 => ?_, fun h1 => ?_⟩
  · generalize (i : Int) / 27 - 1 = a at *
    generalize (i : Int) / 9 % 3 - 1 = b at *
    generalize (i : Int) / 3 % 3 - 1 = c at *
    generalize (i : Int) % 3 - 1 = d at *
    have d1' := d1.2 (by omega)
    rw [hmat] at hs
    have w1 := s_norm f a c hf (by omega) (by omega)
    have w2 := s_norm f b d hf (by omega) (by omega)
    have w3 := s_norm f (a + b) (c + d) hf (by omega) (by omega)
    refine call_of (s_apply a b c d 1 0 ⟨⟨by omega, by omega⟩, by omega, by omega⟩ (by decide)) rfl (by simp) ?_
    try simp -dsimp
    try (first | exact fp_one (by decide) | refine fp_and (by decide) ?_)
    refine call_of (s_apply a b c d 0 1 ⟨⟨by omega, by omega⟩, by omega, by omega⟩ (by decide)) rfl (by simp) ?_
    try simp -dsimp
    try (first | exact fp_one (by decide) | refine fp_and (by decide) ?_)
    refine call_of (s_apply a b c d 1 1 ⟨⟨by omega, by omega⟩, by omega, by omega⟩ (by decide)) rfl (by simp) ?_
    try simp -dsimp
    try (first | exact fp_one (by decide) | refine fp_and (by decide) ?_)
    have bad : pmOk f (a, b, c, d) = false → ∃ y : Nat, (IntKind.i64.wrap ((i : Int) + 1) = (y : Int) ∧ pmL f i = pmL f y) ∧ y ≤ 81 ∧ 81 - y < 81 - i := fun e => by
      rw [e] at hs
      refine ⟨i + 1, ⟨by rw [w64 (by omega) (by omega)]; simp, by rw [hs]; simp⟩, by omega, by omega⟩
    refine call_of (w1) rfl (by simp) ?_
    try simp -dsimp
    try (first | exact fp_one (by decide) | refine fp_and (by decide) ?_)
    refine ⟨fun e1 => ?_, fun e1 => ?_⟩
    · refine call_of (w2) rfl (by simp) ?_
      try simp -dsimp
      try (first | exact fp_one (by decide) | refine fp_and (by decide) ?_)
      refine ⟨fun e2 => ?_, fun e2 => ?_⟩
      · refine call_of (w3) rfl (by simp) ?_
        try simp -dsimp
        try (first | exact fp_one (by decide) | refine fp_and (by decide) ?_)
        rw [w64 (n := 2 + f) (by omega) (by omega)]
        refine ⟨fun e3 => ?_, fun e3 => ?_⟩
        · have e : pmOk f (a, b, c, d) = true := by simp only [pmOk, decide_eq_true e1, decide_eq_true e2, decide_eq_true e3, Bool.true_and]
          rw [e] at hs
          refine ⟨⟨by omega, by omega⟩, i + 1, ?_, by omega, by omega⟩
          exact ⟨by rw [w64 (by omega) (by omega)]; simp, by rw [hs]; simp⟩
        · exact bad (by simp only [pmOk, decide_eq_false e3, Bool.and_false])
      · exact bad (by simp only [pmOk, decide_eq_false e2, Bool.and_false, Bool.false_and])
    · exact bad (by simp only [pmOk, decide_eq_false e1, Bool.false_and])
  · rw [show i = 81 by omega]
end Go.Proofs.YtihkjljafjhniaaEv
namespace Go.Proofs.YtihkjljafjhniaaEv
open Go Go.Proofs
set_option maxRecDepth 10000
def inL (a b c x y : Int) : Bool := decide (redX a b c x y = 0) && decide (y % c = 0)
theorem s_has1 (a b c x y : Int) (ha : 1 ≤ a ∧ a ≤ 64) (hb : 0 ≤ b ∧ b < a) (hc : 1 ≤ c ∧ c ≤ 64) (hx : -1000000000 ≤ x ∧ x ≤ 1000000000) (hy : -1000000000 ≤ y ∧ y ≤ 1000000000) : Sp Try.prog 209 [aL a b c, aV x y] (vb (inL a b c x y)) [] := by
  refine sp_of (m := no) mixed Try.func209 k209 ?_
  simp -dsimp [q]
  refine call_of (s_reduce _ _ _ _ _ ha hb hc hx hy) rfl (by simp) ?_
  try simp -dsimp
  try (first | exact fp_one (by decide) | refine fp_and (by decide) ?_)
  have e : inL a b c x y = true ↔ (redX a b c x y = 0 ∧ y % c = 0) := by simp [inL]
  rw [Bool.eq_iff_iff, cdec_true, e]
def keepL (a b c : Int) (m : M4) : Bool := inL a b c (m.1 * a) (m.2.2.1 * a) && inL a b c (m.1 * b + m.2.1 * c) (m.2.2.1 * b + m.2.2.2 * c)
theorem s_lm1 (a b c p q' r s : Int) (ha : 1 ≤ a ∧ a ≤ 64) (hb : 0 ≤ b ∧ b < a) (hc : 1 ≤ c ∧ c ≤ 64) (hm : (p.natAbs ≤ 1000 ∧ q'.natAbs ≤ 1000) ∧ r.natAbs ≤ 1000 ∧ s.natAbs ≤ 1000) : Sp Try.prog 208 [aM p q' r s, .fq [.int .i64 a, .int .i64 b, .int .i64 c], .fq [.int .i64 a, .int .i64 0], .fq [.int .i64 b, .int .i64 c]] (vb (!keepL a b c (p, q', r, s))) [] := by
  refine sp_of (m := no) mixed Try.func208 k208 ?_
  have h1 := mul_bd hm.1.1 (show a.natAbs ≤ 64 by omega)
  have h2 := mul_bd hm.2.1 (show a.natAbs ≤ 64 by omega)
  have h3 := mul_bd hm.1.1 (show b.natAbs ≤ 64 by omega)
  have h4 := mul_bd hm.1.2 (show c.natAbs ≤ 64 by omega)
  have h5 := mul_bd hm.2.1 (show b.natAbs ≤ 64 by omega)
  have h6 := mul_bd hm.2.2 (show c.natAbs ≤ 64 by omega)
  have w1 := s_has1 a b c (p * a) (r * a) ha hb hc (by omega) (by omega)
  have w2 := s_has1 a b c (p * b + q' * c) (r * b + s * c) ha hb hc (by omega) (by omega)
  simp -dsimp [q]
  refine call_of (s_apply p q' r s a 0 hm ⟨by omega, by omega⟩) rfl (by simp) ?_
  try simp -dsimp
  try (first | exact fp_one (by decide) | refine fp_and (by decide) ?_)
  unfold keepL
  simp only
  generalize inL a b c (p * a) (r * a) = t1 at *
  generalize inL a b c (p * b + q' * c) (r * b + s * c) = t2 at *
  refine call_of (w1) rfl (by simp) ?_
  try simp -dsimp
  try (first | exact fp_one (by decide) | refine fp_and (by decide) ?_)
  cases t1
  · simp -dsimp
  · simp -dsimp
    refine call_of (s_apply p q' r s b c hm ⟨by omega, by omega⟩) rfl (by simp) ?_
    try simp -dsimp
    try (first | exact fp_one (by decide) | refine fp_and (by decide) ?_)
    refine call_of (w2) rfl (by simp) ?_
    try simp -dsimp
    try (first | exact fp_one (by decide) | refine fp_and (by decide) ?_)
theorem pmL_small {f : Int} {n : Nat} (hn : n ≤ 81) {m : M4} (h : m ∈ pmL f n) : (m.1.natAbs ≤ 1 ∧ m.2.1.natAbs ≤ 1) ∧ m.2.2.1.natAbs ≤ 1 ∧ m.2.2.2.natAbs ≤ 1 := by
  unfold pmL at h
  obtain ⟨h1, _⟩ := List.mem_filter.1 h
  obtain ⟨k, hk, rfl⟩ := List.mem_map.1 h1
  have := List.mem_range.1 hk
  simp only [mat81]
  omega
theorem s_lm (f a b c : Int) (hf : 0 ≤ f ∧ f ≤ 1) (ha : 1 ≤ a ∧ a ≤ 64) (hb : 0 ≤ b ∧ b < a) (hc : 1 ≤ c ∧ c ≤ 64) : Sp Try.prog 165 [vi f, aL a b c] (.v (vms ((pmL f 81).filter fun m => keepL a b c m))) [] := by
  refine sp_of (m := fun f => f == 206) mixed Try.func165 k165 ?_
  have hlen := pmL_len f 81
  have hcl : ∀ v ∈ pmL f 81, Sp Try.prog 208 (aM4 v :: [.fq [.int .i64 a, .int .i64 b, .int .i64 c], .fq [.int .i64 a, .int .i64 0], .fq [.int .i64 b, .int .i64 c]]) (vb (!keepL a b c v)) [] := fun v hv => by
    have := pmL_small (Nat.le_refl _) hv
    exact s_lm1 a b c v.1 v.2.1 v.2.2.1 v.2.2.2 ha hb hc ⟨⟨by omega, by omega⟩, by omega, by omega⟩
  simp -dsimp [q]
  refine call_of (s_basis a b c) rfl (by simp) ?_
  try simp -dsimp
  try (first | exact fp_one (by decide) | refine fp_and (by decide) ?_)
  refine call_of (s_pm f hf) rfl (by simp) ?_
  try simp -dsimp
  try (first | exact fp_one (by decide) | refine fp_and (by decide) ?_)
  by_cases hany : (pmL f 81).any (fun v => !keepL a b c v) = true
  · have w := s_delM1 (pmL f 81) _ _ _ 61 (by omega) (by rfl) hcl hany
    simp only [Bool.not_not] at w
    refine callM_of rfl (w) (by simp) ?_
    try simp -dsimp
    try (first | exact fp_one (by decide) | refine fp_and (by decide) ?_)
  · have w := s_delM0 (pmL f 81) _ _ _ 61 (by omega) (by rfl) hcl (by simpa using hany)
    have e : ((pmL f 81).filter fun m => keepL a b c m) = pmL f 81 := by
      rw [List.filter_eq_self]
      intro m hm
      simp only [Bool.not_eq_true] at hany
      simpa using List.any_eq_false.1 hany m hm
    rw [e]
    refine callM_of rfl (w) (by simp) ?_
    try simp -dsimp
    try (first | exact fp_one (by decide) | refine fp_and (by decide) ?_)
end Go.Proofs.YtihkjljafjhniaaEv
namespace Go.Proofs.YtihkjljafjhniaaEv
open Go Go.Proofs
set_option maxRecDepth 10000
/-- Closed under adding multiples. -/
structure Sub (L : Int → Int → Prop) : Prop where
  z : L 0 0
  a : ∀ {x y u v : Int} (n : Int), L x y → L u v → L (x + n * u) (y + n * v)
theorem Sub.m {L : Int → Int → Prop} (s : Sub L) {x y : Int} (n : Int) (h : L x y) : L (n * x) (n * y) := by
  have := s.a n s.z h
  simpa using this
theorem Sub.s {L : Int → Int → Prop} (s : Sub L) {x y u v : Int} (n : Int) (h : L x y) (k : L u v) : L (x - n * u) (y - n * v) := by
  have := s.a (-n) h k
  rwa [Int.neg_mul, Int.neg_mul, ← Int.sub_eq_add_neg, ← Int.sub_eq_add_neg] at this
theorem sub_gcd {L : Int → Int → Prop} (s : Sub L) : ∀ (n : Nat) (a b : Int), b.natAbs ≤ n → L a 0 → L b 0 → L (Int.gcd a b : Int) 0
  | 0, a, b, hn, ha, hb => by
    have : b = 0 := by omega
    subst this
    rw [Int.gcd_zero_right]
    rcases Int.natAbs_eq a with h | h
    · rwa [← h]
    · have := s.m (-1) ha
      rw [show ((a.natAbs : Nat) : Int) = -1 * a by omega]
      simpa using this
  | n + 1, a, b, hn, ha, hb => by
    by_cases h0 : b = 0
    · exact sub_gcd s n a b (by omega) ha hb
    have h1 := tmod_abs a h0
    rw [← gcd_step]
    refine sub_gcd s n b _ (by omega) hb ?_
    have h2 := s.s (a.tdiv b) ha hb
    have h3 := Int.tmod_add_mul_tdiv a b
    rw [Int.mul_comm] at h3
    rw [show a.tmod b = a - a.tdiv b * b by omega]
    simpa using h2
theorem sub_of_gcd {L : Int → Int → Prop} (s : Sub L) {a b : Int} (h : L (Int.gcd a b : Int) 0) : L a 0 ∧ L b 0 := by
  obtain ⟨k, hk⟩ := Int.gcd_dvd_left (a := a) (b := b)
  obtain ⟨j, hj⟩ := Int.gcd_dvd_right (a := a) (b := b)
  constructor
  · have := s.m k h
    rw [Int.mul_comm, ← hk] at this
    simpa using this
  · have := s.m j h
    rw [Int.mul_comm, ← hj] at this
    simpa using this
theorem eu_row0 : ∀ (n : Nat) (h v : Int × Int), v.2.natAbs ≤ n → (eu n h v).2.2 = 0
  | 0, h, v, hn => by simp only [eu]; omega
  | n + 1, h, v, hn => by
    simp only [eu]
    by_cases hv : v.2 = 0
    · rw [if_pos hv]; exact hv
    · rw [if_neg hv]
      have := tmod_abs h.2 hv
      exact eu_row0 n _ _ (by simp only; omega)
theorem sub_eu {L : Int → Int → Prop} (s : Sub L) : ∀ (n : Nat) (h v : Int × Int), (L (eu n h v).1.1 (eu n h v).1.2 ∧ L (eu n h v).2.1 (eu n h v).2.2) ↔ (L h.1 h.2 ∧ L v.1 v.2)
  | 0, h, v => by simp [eu]
  | n + 1, h, v => by
    simp only [eu]
    by_cases hv : v.2 = 0
    · rw [if_pos hv]
    · rw [if_neg hv, sub_eu s n]
      have h3 := Int.tmod_add_mul_tdiv h.2 v.2
      rw [Int.mul_comm] at h3
      have e : h.2.tmod v.2 = h.2 - h.2.tdiv v.2 * v.2 := by omega
      simp only [e]
      constructor
      · rintro ⟨h1, h2⟩
        refine ⟨?_, h1⟩
        have := s.a (h.2.tdiv v.2) h2 h1
        rwa [Int.sub_add_cancel, Int.sub_add_cancel] at this
      · rintro ⟨h1, h2⟩
        exact ⟨h2, s.s _ h1 h2⟩
theorem sub_lstep {L : Int → Int → Prop} (s : Sub L) (t : Int × Int × Int) (v : Int × Int) : (L (lstep t v).1 0 ∧ L (lstep t v).2.1 (lstep t v).2.2) ↔ ((L t.1 0 ∧ L t.2.1 t.2.2) ∧ L v.1 v.2) := by
  have e1 := sub_eu s v.2.natAbs t.2 v
  have e2 := eu_row0 v.2.natAbs t.2 v (Nat.le_refl _)
  rw [e2] at e1
  simp only [lstep]
  constructor
  · rintro ⟨h1, h2⟩
    obtain ⟨h3, h4⟩ := sub_of_gcd s h1
    have := e1.1 ⟨h2, h4⟩
    exact ⟨⟨h3, this.1⟩, this.2⟩
  · rintro ⟨⟨h1, h2⟩, h3⟩
    have := e1.2 ⟨h2, h3⟩
    exact ⟨sub_gcd s _ _ _ (Nat.le_refl _) h1 this.2, this.1⟩
theorem sub_lstepS {L : Int → Int → Prop} (s : Sub L) (t : Int × Int × Int) (v : Int × Int) : (L (lstepS t v).1 0 ∧ L (lstepS t v).2.1 (lstepS t v).2.2) ↔ ((L t.1 0 ∧ L t.2.1 t.2.2) ∧ L v.1 v.2) := by
  rw [← sub_lstep s]
  simp only [lstep, lstepS]
  generalize (Int.gcd t.1 (eu v.2.natAbs t.2 v).2.1 : Int) = g
  generalize (eu v.2.natAbs t.2 v).1 = h
  refine and_congr_right fun hg => ?_
  split
  · have e := Int.emod_add_mul_ediv h.1 g
    rw [Int.mul_comm] at e
    constructor
    · intro h1
      have := s.a (h.1 / g) h1 hg
      rw [e] at this
      simpa using this
    · intro h1
      have := s.s (h.1 / g) h1 hg
      rw [show h.1 % g = h.1 - h.1 / g * g by omega]
      simpa using this
  · exact Iff.rfl
theorem sub_foldl {L : Int → Int → Prop} {st : Int × Int × Int → Int × Int → Int × Int × Int} (hst : ∀ t v, (L (st t v).1 0 ∧ L (st t v).2.1 (st t v).2.2) ↔ ((L t.1 0 ∧ L t.2.1 t.2.2) ∧ L v.1 v.2)) : ∀ (l : List (Int × Int)) (t : Int × Int × Int), (L (l.foldl st t).1 0 ∧ L (l.foldl st t).2.1 (l.foldl st t).2.2) ↔ ((L t.1 0 ∧ L t.2.1 t.2.2) ∧ ∀ v ∈ l, L v.1 v.2)
  | [], t => by simp
  | v :: l, t => by
    rw [List.foldl_cons, sub_foldl hst l, hst]
    simp only [List.mem_cons, forall_eq_or_imp, and_assoc]
theorem sub_lfold {L : Int → Int → Prop} (s : Sub L) (l : List (Int × Int)) : (L (lfold l).1 0 ∧ L (lfold l).2.1 (lfold l).2.2) ↔ ∀ v ∈ l, L v.1 v.2 := by
  rw [lfold, sub_foldl (sub_lstep s)]
  simp [s.z]
theorem sub_lfoldS {L : Int → Int → Prop} (s : Sub L) (l : List (Int × Int)) : (L (lfoldS l).1 0 ∧ L (lfoldS l).2.1 (lfoldS l).2.2) ↔ ∀ v ∈ l, L v.1 v.2 := by
  rw [lfoldS, sub_foldl (sub_lstepS s)]
  simp [s.z]
theorem sub_lfin {L : Int → Int → Prop} (s : Sub L) (t : Int × Int × Int) : (L (lfin t).1 0 ∧ L (lfin t).2.1 (lfin t).2.2) ↔ (L t.1 0 ∧ L t.2.1 t.2.2) := by
  simp only [lfin]
  refine and_congr_right fun hg => ?_
  have key : ∀ x y : Int, L (x % t.1) y ↔ L x y := fun x y => by
    have e := Int.emod_add_mul_ediv x t.1
    rw [Int.mul_comm] at e
    constructor
    · intro h1
      have := s.a (x / t.1) h1 hg
      rw [e] at this
      simpa using this
    · intro h1
      have := s.s (x / t.1) h1 hg
      rw [show x % t.1 = x - x / t.1 * t.1 by omega]
      simpa using this
  split
  · rw [key]
    constructor
    · intro h
      have := s.m (-1) h
      simpa using this
    · intro h
      have := s.m (-1) h
      simpa using this
  · rw [key]
def spn (a b c x y : Int) : Prop := ∃ i j : Int, x = i * a + j * b ∧ y = j * c
theorem spn_sub (a b c : Int) : Sub (spn a b c) where
  z := ⟨0, 0, by simp, by simp⟩
  a := by
    rintro x y u v n ⟨i, j, rfl, rfl⟩ ⟨k, l, rfl, rfl⟩
    refine ⟨i + n * k, j + n * l, ?_, ?_⟩
    · simp only [Int.add_mul, Int.mul_add, Int.mul_assoc]; omega
    · simp only [Int.add_mul, Int.mul_assoc]
theorem spn_l (a b c : Int) : spn a b c a 0 := ⟨1, 0, by simp, by simp⟩
theorem spn_r (a b c : Int) : spn a b c b c := ⟨0, 1, by simp, by simp⟩
theorem spn_det {a b c x y u v : Int} (h1 : spn a b c x y) (h2 : spn a b c u v) : a * c ∣ x * v - y * u := by
  obtain ⟨i, j, rfl, rfl⟩ := h1
  obtain ⟨k, l, rfl, rfl⟩ := h2
  refine ⟨i * l - j * k, ?_⟩
  simp only [Int.mul_sub, Int.add_mul, Int.mul_add]
  have e1 : i * a * (l * c) = a * c * (i * l) := by ac_rfl
  have e2 : j * b * (l * c) = j * c * (l * b) := by ac_rfl
  have e3 : j * c * (k * a) = a * c * (j * k) := by ac_rfl
  rw [e1, e2, e3]
  omega
theorem spn_uniq {a b c A B C : Int} (ha : 0 < a) (hb : 0 ≤ b ∧ b < a) (hc : 0 < c) (hA : 0 < A) (hB : 0 ≤ B ∧ B < A) (hC : 0 < C) (h1 : spn A B C a 0) (h2 : spn A B C b c) (h3 : spn a b c A 0) (h4 : spn a b c B C) : (a, b, c) = (A, B, C) := by
  obtain ⟨i1, j1, e1, f1⟩ := h1
  obtain ⟨i2, j2, e2, f2⟩ := h2
  obtain ⟨i3, j3, e3, f3⟩ := h3
  obtain ⟨i4, j4, e4, f4⟩ := h4
  have j1z : j1 = 0 := by
    rcases Int.mul_eq_zero.1 f1.symm with h | h <;> omega
  have j3z : j3 = 0 := by
    rcases Int.mul_eq_zero.1 f3.symm with h | h <;> omega
  subst j1z j3z
  simp only [Int.zero_mul, Int.add_zero] at e1 e3
  have eA : A = a := Int.le_antisymm (Int.le_of_dvd ha ⟨i1, by rw [Int.mul_comm]; exact e1⟩) (Int.le_of_dvd hA ⟨i3, by rw [Int.mul_comm]; exact e3⟩)
  have eC : C = c := Int.le_antisymm (Int.le_of_dvd hc ⟨j2, by rw [Int.mul_comm]; exact f2⟩) (Int.le_of_dvd hC ⟨j4, by rw [Int.mul_comm]; exact f4⟩)
  subst eA eC
  have : j2 = 1 := by
    have : (j2 - 1) * C = 0 := by rw [Int.sub_mul, Int.one_mul]; omega
    rcases Int.mul_eq_zero.1 this with h | h <;> omega
  subst this
  rw [Int.one_mul] at e2
  have : b % A = B % A := by rw [e2, Int.add_comm, Int.add_mul_emod_self_right]
  rw [Int.emod_eq_of_lt hb.1 hb.2, Int.emod_eq_of_lt hB.1 hB.2] at this
  rw [this]
end Go.Proofs.YtihkjljafjhniaaEv
namespace Go.Proofs.YtihkjljafjhniaaEv
open Go Go.Proofs
set_option maxRecDepth 10000
theorem inL_iff {a b c x y : Int} : inL a b c x y = true ↔ (x - y / c * b) % a = 0 ∧ y % c = 0 := by
  unfold inL
  rw [Bool.and_eq_true, decide_eq_true_iff, decide_eq_true_iff]
  exact Iff.rfl
theorem inL_spn {a b c x y : Int} (hc : 1 ≤ c) : inL a b c x y = true ↔ spn a b c x y := by
  rw [inL_iff]
  constructor
  · rintro ⟨h1, h2⟩
    have e1 := Int.emod_add_mul_ediv (x - y / c * b) a
    have e2 := Int.emod_add_mul_ediv y c
    refine ⟨(x - y / c * b) / a, y / c, ?_, ?_⟩
    · rw [h1, Int.mul_comm] at e1; omega
    · rw [h2, Int.mul_comm] at e2; omega
  · rintro ⟨i, j, rfl, rfl⟩
    rw [Int.mul_ediv_cancel _ (show c ≠ 0 by omega)]
    refine ⟨?_, Int.mul_emod_left _ _⟩
    rw [Int.add_sub_cancel]
    exact Int.mul_emod_left _ _
theorem lfS_one (x y : Int) : lfoldS [(x, y)] = if y = 0 then ((x.natAbs : Int), 0, 0) else (0, x, y) := by
  simp only [lfoldS, List.foldl_cons, List.foldl_nil, lstepS]
  by_cases hy : y = 0
  · subst hy
    simp [eu]
  · have h := eu_step (h := (0, 0)) (v := (x, y)) hy
    simp only at h
    rw [if_neg hy, h]
    simp [eu]
theorem lfS_g (l : List (Int × Int)) (v : Int × Int) : 0 ≤ (lfoldS (l ++ [v])).1 ∧ (0 < (lfoldS (l ++ [v])).1 → 0 ≤ (lfoldS (l ++ [v])).2.1 ∧ (lfoldS (l ++ [v])).2.1 < (lfoldS (l ++ [v])).1) := by
  rw [lfoldS_snoc]
  simp only [lstepS]
  refine ⟨by omega, fun h => ?_⟩
  rw [if_pos h]
  exact ⟨Int.emod_nonneg _ (by omega), Int.emod_lt_of_pos _ h⟩
structure Two (x y u w : Int) : Prop where
  h : 0 < (lfoldS [(x, y), (u, w)]).1
  r : 0 ≤ (lfoldS [(x, y), (u, w)]).2.1 ∧ (lfoldS [(x, y), (u, w)]).2.1 < (lfoldS [(x, y), (u, w)]).1
  k : (lfoldS [(x, y), (u, w)]).2.2 ≠ 0
  d : (lfoldS [(x, y), (u, w)]).1 * (lfoldS [(x, y), (u, w)]).2.2 ∣ x * w - y * u
  s : lsmallS [(x, y), (u, w)]
theorem dvd_bd {a b : Int} {D : Nat} (h : a ∣ b) (h0 : b ≠ 0) (hb : b.natAbs ≤ D) : a.natAbs ≤ D := by
  have := Int.natAbs_dvd_natAbs.2 h
  exact Nat.le_trans (Nat.le_of_dvd (by omega) this) hb
theorem takeTwo {α : Type} (x y : α) (P : List α → Prop) (h0 : P []) (h1 : P [x]) (h2 : P [x, y]) : ∀ k, P (([x, y] : List α).take k)
  | 0 => h0
  | 1 => h1
  | k + 2 => by simpa using h2
theorem two {x y u w : Int} (hx : x.natAbs ≤ 1000) (hy : y.natAbs ≤ 1000) (hu : u.natAbs ≤ 1000) (hw : w.natAbs ≤ 1000) (hd : x * w - y * u ≠ 0) (hD : (x * w - y * u).natAbs ≤ 1000000) : Two x y u w := by
  have g := lfS_g [(x, y)] (u, w)
  have sp := (sub_lfoldS (spn_sub (lfoldS [(x, y), (u, w)]).1 (lfoldS [(x, y), (u, w)]).2.1 (lfoldS [(x, y), (u, w)]).2.2) [(x, y), (u, w)]).1 ⟨spn_l _ _ _, spn_r _ _ _⟩
  have s1 := sp (x, y) (by simp)
  have s2 := sp (u, w) (by simp)
  have dv := spn_det s1 s2
  have e1 := lfS_one x y
  rw [List.singleton_append] at g
  have e2 : smallV 1000000 (lfoldS [(x, y)]).2 ∧ (lfoldS [(x, y)]).1.natAbs ≤ 1000000 := by
    rw [e1]
    split
    · exact ⟨⟨by simp, by simp⟩, by simp only; omega⟩
    · exact ⟨⟨by simp only; omega, by simp only; omega⟩, by simp⟩
  have hv : ∀ v ∈ ([(x, y), (u, w)] : List (Int × Int)), smallV 1000000 v := by
    intro v hv
    simp only [List.mem_cons, List.not_mem_nil, or_false] at hv
    rcases hv with rfl | rfl <;> exact ⟨by simp only; omega, by simp only; omega⟩
  have gz : (lfoldS [(x, y), (u, w)]).1 ≠ 0 := fun e => by rw [e, Int.zero_mul, Int.zero_dvd] at dv; exact hd dv
  have kz : (lfoldS [(x, y), (u, w)]).2.2 ≠ 0 := fun e => by rw [e, Int.mul_zero, Int.zero_dvd] at dv; exact hd dv
  have d1 := dvd_bd (Int.dvd_trans (Int.dvd_mul_right _ _) dv) hd hD
  have d2 := dvd_bd (Int.dvd_trans (Int.dvd_mul_left _ _) dv) hd hD
  have gp : 0 < (lfoldS [(x, y), (u, w)]).1 := by omega
  have gr := g.2 gp
  refine ⟨gp, gr, kz, dv, hv, takeTwo _ _ (fun l => smallV 1000000 (lfoldS l).2 ∧ (lfoldS l).1.natAbs ≤ 1000000) ?_ e2 ?_⟩
  · exact ⟨⟨by decide, by decide⟩, by decide⟩
  · exact ⟨⟨by omega, d2⟩, d1⟩
theorem image_eq {a b c x y u w : Int} (ha : 1 ≤ a) (hb : 0 ≤ b ∧ b < a) (hc : 1 ≤ c) (t : Two x y u w) (hd : x * w - y * u = a * c ∨ x * w - y * u = -(a * c)) : lfin (lfoldS [(x, y), (u, w)]) = (a, b, c) ↔ (spn a b c x y ∧ spn a b c u w) := by
  have e := (sub_lfin (spn_sub a b c) (lfoldS [(x, y), (u, w)])).trans (sub_lfoldS (spn_sub a b c) [(x, y), (u, w)])
  simp only [List.mem_cons, List.not_mem_nil, or_false, forall_eq_or_imp, forall_eq] at e
  rw [← e]
  obtain ⟨t1, t2, t3, t4, _⟩ := t
  have f1 : (lfin (lfoldS [(x, y), (u, w)])).1 = (lfoldS [(x, y), (u, w)]).1 := rfl
  have f2 : 0 ≤ (lfin (lfoldS [(x, y), (u, w)])).2.1 ∧ (lfin (lfoldS [(x, y), (u, w)])).2.1 < (lfoldS [(x, y), (u, w)]).1 := ⟨Int.emod_nonneg _ (by omega), Int.emod_lt_of_pos _ t1⟩
  have f3 : 0 < (lfin (lfoldS [(x, y), (u, w)])).2.2 := by
    simp only [lfin]
    split <;> omega
  have f4 : (lfin (lfoldS [(x, y), (u, w)])).1 * (lfin (lfoldS [(x, y), (u, w)])).2.2 ∣ a * c := by
    have : (lfoldS [(x, y), (u, w)]).1 * (lfoldS [(x, y), (u, w)]).2.2 ∣ a * c := by
      rcases hd with h | h
      · rwa [h] at t4
      · rw [h] at t4; exact Int.dvd_neg.1 t4
    simp only [lfin]
    split
    · rw [Int.mul_neg]; exact Int.neg_dvd.2 this
    · exact this
  rw [← f1] at f2 t1
  generalize lfin (lfoldS [(x, y), (u, w)]) = r at *
  obtain ⟨A, B, C⟩ := r
  simp only at *
  constructor
  · intro h
    cases h
    exact ⟨spn_l _ _ _, spn_r _ _ _⟩
  · rintro ⟨⟨i3, j3, e3, g3⟩, ⟨i4, j4, e4, g4⟩⟩
    have j3z : j3 = 0 := by rcases Int.mul_eq_zero.1 g3.symm with h | h <;> omega
    subst j3z
    simp only [Int.zero_mul, Int.add_zero] at e3
    obtain ⟨n, hn⟩ := f4
    have hp : 0 < a * c := Int.mul_pos (by omega) (by omega)
    have h1 : a * c * (i3 * j4 * n - 1) = 0 := by subst e3 g4; grind
    have h2 : i3 * j4 * n = 1 := by rcases Int.mul_eq_zero.1 h1 with h | h <;> omega
    have i3p : 0 < i3 := by
      rcases Int.lt_trichotomy i3 0 with h | h | h
      · have := Int.mul_neg_of_neg_of_pos h (show 0 < a by omega); omega
      · subst h; simp at e3; omega
      · exact h
    have j4p : 0 < j4 := by
      rcases Int.lt_trichotomy j4 0 with h | h | h
      · have := Int.mul_neg_of_neg_of_pos h (show 0 < c by omega); omega
      · subst h; simp at g4; omega
      · exact h
    have q1 : i3 = 1 := by
      have := Int.le_of_dvd (by decide) (show i3 ∣ 1 from ⟨j4 * n, by rw [← h2, Int.mul_assoc]⟩)
      omega
    have q2 : j4 = 1 := by
      have := Int.le_of_dvd (by decide) (show j4 ∣ 1 from ⟨i3 * n, by rw [← h2]; ac_rfl⟩)
      omega
    subst q1 q2
    simp only [Int.one_mul] at e3 e4 g4
    subst e3 g4
    have : B % A = b % A := by rw [e4, Int.add_comm, Int.add_mul_emod_self_right]
    rw [Int.emod_eq_of_lt hb.1 hb.2, Int.emod_eq_of_lt f2.1 f2.2] at this
    rw [this]
/-! point matrices -/
theorem sq_le {x : Int} {n : Nat} (h : x * x ≤ n) : x.natAbs ≤ n := by
  have h1 : (x * x).natAbs = x.natAbs * x.natAbs := Int.natAbs_mul _ _
  have h0 : 0 ≤ x * x := by rcases Int.le_total 0 x with h | h; exact Int.mul_nonneg h h; exact Int.mul_nonneg_of_nonpos_of_nonpos h h
  rcases Nat.eq_zero_or_pos x.natAbs with h2 | h2
  · omega
  · have := Nat.le_mul_of_pos_right x.natAbs h2
    omega
theorem norm_one {f x y : Int} (hf : 0 ≤ f ∧ f ≤ 1) (h : normF f x y = 1) : x.natAbs ≤ 1 ∧ y.natAbs ≤ 1 := by
  unfold normF at h
  have hsq : ∀ z : Int, 0 ≤ z * z := fun z => by rcases Int.le_total 0 z with h | h; exact Int.mul_nonneg h h; exact Int.mul_nonneg_of_nonpos_of_nonpos h h
  rcases (by omega : f = 0 ∨ f = 1) with rfl | rfl
  · have := hsq x; have := hsq y
    rw [Int.zero_mul, Int.zero_mul] at h
    exact ⟨sq_le (by omega), sq_le (by omega)⟩
  · rw [Int.one_mul] at h
    have e1 := hsq (2 * x + y)
    have e2 := hsq (x + 2 * y)
    have e3 : (2 * x + y) * (2 * x + y) + 3 * (y * y) = 4 := by grind
    have e4 : (x + 2 * y) * (x + 2 * y) + 3 * (x * x) = 4 := by grind
    exact ⟨sq_le (by omega), sq_le (by omega)⟩
theorem one_cases {x : Int} (h : x.natAbs ≤ 1) : x = -1 ∨ x = 0 ∨ x = 1 := by omega
theorem pmL_mem {f : Int} (hf : 0 ≤ f ∧ f ≤ 1) (a b c d : Int) : (a, b, c, d) ∈ pmL f 81 ↔ pmOk f (a, b, c, d) = true := by
  constructor
  · intro h
    unfold pmL at h
    exact (List.mem_filter.1 h).2
  · intro h
    unfold pmL
    refine List.mem_filter.2 ⟨?_, h⟩
    simp only [pmOk, Bool.and_eq_true, decide_eq_true_eq] at h
    obtain ⟨h1, h2⟩ := norm_one hf h.1.1
    obtain ⟨h3, h4⟩ := norm_one hf h.1.2
    refine List.mem_map.2 ⟨((a + 1) * 27 + (b + 1) * 9 + (c + 1) * 3 + (d + 1)).toNat, List.mem_range.2 (by omega), ?_⟩
    simp only [mat81, Prod.mk.injEq]
    omega
theorem pm_facts {f a b c d : Int} (hf : 0 ≤ f ∧ f ≤ 1) (h : pmOk f (a, b, c, d) = true) : (a.natAbs ≤ 1 ∧ b.natAbs ≤ 1) ∧ (c.natAbs ≤ 1 ∧ d.natAbs ≤ 1) ∧ (a * d - b * c = 1 ∨ a * d - b * c = -1) := by
  have h' := h
  simp only [pmOk, Bool.and_eq_true, decide_eq_true_eq] at h
  obtain ⟨h1, h2⟩ := norm_one hf h.1.1
  obtain ⟨h3, h4⟩ := norm_one hf h.1.2
  refine ⟨⟨h1, h3⟩, ⟨h2, h4⟩, ?_⟩
  rcases (by omega : f = 0 ∨ f = 1) with rfl | rfl <;> rcases one_cases h1 with rfl | rfl | rfl <;> rcases one_cases h2 with rfl | rfl | rfl <;> rcases one_cases h3 with rfl | rfl | rfl <;> rcases one_cases h4 with rfl | rfl | rfl <;> first | decide | (exfalso; revert h'; decide)
theorem pm_mat {f a b c d : Int} (hf : 0 ≤ f ∧ f ≤ 1) (h : pmOk f (a, b, c, d) = true) : matOk a b c d = true := by
  obtain ⟨⟨h1, h2⟩, ⟨h3, h4⟩, h5⟩ := pm_facts hf h
  have e1 : okV a b = true := okV_spec.2 (by omega)
  have e2 : okV c d = true := okV_spec.2 (by omega)
  simp only [matOk, e1, e2, Bool.true_and, Bool.or_eq_true, decide_eq_true_eq]
  exact h5
end Go.Proofs.YtihkjljafjhniaaEv
namespace Go.Proofs.YtihkjljafjhniaaEv
open Go Go.Proofs
set_option maxRecDepth 10000
theorem s_idxM (l : List M4) (m : M4) (h : l.length ≤ 1048576) : Sp Try.prog 213 [.v (vms l), aM4 m] (vi (if m ∈ l then l.idxOf m else -1)) [] := by
  refine sp_of (m := no) mixed Try.func213 k213 ?_
  simp -dsimp [q, -Prod.forall, -Prod.exists]
  refine awp_it (true :: false :: false :: true :: false :: false :: false :: true :: true :: []) (fun i : Nat => [(8, vi i)]) (fun i => []) (fun i => i ≤ l.length ∧ ∀ x ∈ l.take i, x ≠ m) (fun i => l.length - i) 0 ?_
  intro s0 e
  simp -dsimp at e
  subst e
  refine ⟨?_, ?_⟩
  · simp
  rintro i ⟨hi, hi2⟩
  simp -dsimp [-Prod.forall, -Prod.exists]
  refine ⟨fun h1 => ⟨h1, fun x ha => ?_⟩, fun h1 => ?_⟩
  · obtain ⟨_, hal⟩ := List.getElem?_eq_some_iff.1 ha
    refine ⟨fun e1 e2 e3 e4 => ?_, fun hn => ⟨i + 1, by rw [w64 (by omega) (by omega)]; simp, ⟨by omega, fun x' hx => ?_⟩, by omega⟩⟩
    · have e : x = m := Prod.ext e1.symm (Prod.ext e2.symm (Prod.ext e3.symm e4.symm))
      rw [if_pos (e ▸ List.mem_of_getElem? ha), List.idxOf, (List.findIdx_eq h1).2 ⟨by rw [hal, e]; simp, fun j hj => by
        have := hi2 l[j] (List.mem_iff_getElem.2 ⟨j, by simp; omega, by simp⟩)
        simpa using this⟩]
    · rw [List.take_add_one, ha] at hx
      rcases List.mem_append.1 hx with hx | hx
      · exact hi2 _ hx
      · simp only [Option.toList_some, List.mem_singleton] at hx
        rw [hx]
        rintro rfl
        exact hn rfl rfl rfl rfl
  · rw [List.take_of_length_le h1] at hi2
    exact fun hm => hi2 m hm rfl
theorem s_contM (l : List M4) (m : M4) (h : l.length ≤ 1048576) : Sp Try.prog 169 [.v (vms l), aM4 m] (vb (decide (m ∈ l))) [] := by
  refine sp_of (m := no) mixed Try.func169 k169 ?_
  have w := s_idxM l m h
  simp -dsimp [q]
  refine call_of (w) rfl (by simp) ?_
  try simp -dsimp
  try (first | exact fp_one (by decide) | refine fp_and (by decide) ?_)
  by_cases hm : m ∈ l
  · rw [if_pos hm]
    simp [hm]
  · rw [if_neg hm]
    simp [hm]
def suit (f a b c p q' r s t u : Int) : Bool := pmOk f (p, q', r, s) && keepL a b c (p, q', r, s) && okV t u
theorem s_suit (f a b c p q' r s t u : Int) (hf : 0 ≤ f ∧ f ≤ 1) (h : okL a b c = true) : Sp Try.prog 103 [vi f, aL a b c, aG p q' r s t u] (vb (suit f a b c p q' r s t u)) [] := by
  obtain ⟨ha, hc, hb, _⟩ := okL_spec.1 h
  refine sp_of (m := no) mixed Try.func103 k103 ?_
  have w1 := s_isVec t u
  have hlen : ((pmL f 81).filter fun m => keepL a b c m).length ≤ 81 := Nat.le_trans (List.length_filter_le _ _) (pmL_len f 81)
  have w2 := s_contM ((pmL f 81).filter fun m => keepL a b c m) (p, q', r, s) (by omega)
  have e : decide ((p, q', r, s) ∈ (pmL f 81).filter fun m => keepL a b c m) = (pmOk f (p, q', r, s) && keepL a b c (p, q', r, s)) := by
    rw [Bool.eq_iff_iff, decide_eq_true_iff, List.mem_filter, pmL_mem hf, Bool.and_eq_true]
  rw [e] at w2
  unfold suit
  simp -dsimp [q]
  cases hv : okV t u
  · rw [hv] at w1
    refine call_of (w1) rfl (by simp) ?_
    try simp -dsimp
    try (first | exact fp_one (by decide) | refine fp_and (by decide) ?_)
  · rw [hv] at w1
    refine call_of (w1) rfl (by simp) ?_
    try simp -dsimp
    try (first | exact fp_one (by decide) | refine fp_and (by decide) ?_)
    refine call_of (s_lm f a b c hf ha hb hc) rfl (by simp) ?_
    try simp -dsimp
    try (first | exact fp_one (by decide) | refine fp_and (by decide) ?_)
    refine call_of (w2) rfl (by simp) ?_
    try simp -dsimp
    try (first | exact fp_one (by decide) | refine fp_and (by decide) ?_)
theorem s_simage (a b c p q' r s : Int) (h : okL a b c = true) (hm : (p.natAbs ≤ 1 ∧ q'.natAbs ≤ 1) ∧ (r.natAbs ≤ 1 ∧ s.natAbs ≤ 1) ∧ (p * s - q' * r = 1 ∨ p * s - q' * r = -1)) : ∃ A B C, ((A, B, C) = (a, b, c) ↔ keepL a b c (p, q', r, s) = true) ∧ Sp Try.prog 144 [aM p q' r s, aL a b c] (aL A B C) [] := by
  obtain ⟨ha, hc, hb, hac⟩ := okL_spec.1 h
  obtain ⟨⟨m1, m2⟩, ⟨m3, m4⟩, hd⟩ := hm
  have h1 := mul_bd m1 (show a.natAbs ≤ 64 by omega)
  have h2 := mul_bd m3 (show a.natAbs ≤ 64 by omega)
  have h3 := mul_bd m1 (show b.natAbs ≤ 64 by omega)
  have h4 := mul_bd m2 (show c.natAbs ≤ 64 by omega)
  have h5 := mul_bd m3 (show b.natAbs ≤ 64 by omega)
  have h6 := mul_bd m4 (show c.natAbs ≤ 64 by omega)
  have hdet : p * a * (r * b + s * c) - r * a * (p * b + q' * c) = a * c ∨ p * a * (r * b + s * c) - r * a * (p * b + q' * c) = -(a * c) := by
    have e : p * a * (r * b + s * c) - r * a * (p * b + q' * c) = a * c * (p * s - q' * r) := by grind
    rw [e]
    rcases hd with e | e
    · left; rw [e, Int.mul_one]
    · right; rw [e, Int.mul_neg, Int.mul_one]
  have hp : 0 < a * c := Int.mul_pos (by omega) (by omega)
  have t := two (x := p * a) (y := r * a) (u := p * b + q' * c) (w := r * b + s * c) (by omega) (by omega) (by omega) (by omega) (by omega) (by omega)
  have w := s_hermite [(p * a, r * a), (p * b + q' * c, r * b + s * c)] (by simp) t.s t.h
  have e := image_eq (a := a) (b := b) (c := c) (by omega) hb (by omega) t hdet
  rw [← inL_spn (by omega), ← inL_spn (by omega), ← Bool.and_eq_true] at e
  generalize lfin (lfoldS [(p * a, r * a), (p * b + q' * c, r * b + s * c)]) = R at w e
  obtain ⟨A, B, C⟩ := R
  refine ⟨A, B, C, e, ?_⟩
  refine sp_of (m := no) mixed Try.func144 k144 ?_
  simp -dsimp [q]
  refine call_of ((s_sbasis a b c : Sp Try.prog 195 [aL a b c] (.v (.sl 2 [.ag [.int .i64 a, .int .i64 0], .ag [.int .i64 b, .int .i64 c]])) [])) rfl (by simp) ?_
  try simp -dsimp
  try (first | exact fp_one (by decide) | refine fp_and (by decide) ?_)
  refine call_of (s_sapply p q' r s a 0 ⟨⟨by omega, by omega⟩, by omega, by omega⟩ ⟨by omega, by omega⟩) rfl (by simp) ?_
  try simp -dsimp
  try (first | exact fp_one (by decide) | refine fp_and (by decide) ?_)
  refine call_of (s_sapply p q' r s b c ⟨⟨by omega, by omega⟩, by omega, by omega⟩ ⟨by omega, by omega⟩) rfl (by simp) ?_
  try simp -dsimp
  try (first | exact fp_one (by decide) | refine fp_and (by decide) ?_)
  refine call_of (w) rfl (by simp) ?_
  try simp -dsimp
  try (first | exact fp_one (by decide) | refine fp_and (by decide) ?_)
theorem s_ssuit' (f a b c p q' r s t u : Int) (T : Bool) (hT : T = (decide (0 ≤ f ∧ f ≤ 1) && okL a b c && suit f a b c p q' r s t u)) : Sp Try.prog 99 [vi f, aL a b c, aG p q' r s t u] (vb T) [] := by
  refine sp_of (m := no) mixed Try.func99 k99 ?_
  have w1 := s_scode f a b c
  have w2 := s_sisPM f p q' r s
  have w4 := s_sisVec t u
  simp -dsimp [q]
  by_cases h1 : 0 ≤ f ∧ f ≤ 1 ∧ okL a b c = true
  case neg =>
    rw [if_neg h1] at w1
    have e : T = false := by
      rw [hT, Bool.eq_false_iff]
      intro e
      rw [Bool.and_eq_true, Bool.and_eq_true, decide_eq_true_iff] at e
      exact h1 ⟨e.1.1.1, e.1.1.2, e.1.2⟩
    subst e
    refine call_of (w1) rfl (by simp) ?_
    try simp -dsimp
    try (first | exact fp_one (by decide) | refine fp_and (by decide) ?_)
  rw [if_pos h1] at w1
  have hf : 0 ≤ f ∧ f ≤ 1 := ⟨h1.1, h1.2.1⟩
  rw [decide_eq_true hf, h1.2.2] at hT
  rw [decide_eq_true hf] at w2
  unfold suit at hT
  by_cases h2 : pmOk f (p, q', r, s) = true
  case neg =>
    simp only [Bool.not_eq_true] at h2
    rw [h2, Bool.and_false] at w2
    have e : T = false := by rw [hT, h2]; rfl
    subst e
    refine call_of (w1) rfl (by simp) ?_
    try simp -dsimp
    try (first | exact fp_one (by decide) | refine fp_and (by decide) ?_)
    refine call_of (w2) rfl (by simp) ?_
    try simp -dsimp
    try (first | exact fp_one (by decide) | refine fp_and (by decide) ?_)
  rw [pm_mat hf h2, h2] at w2
  obtain ⟨A, B, C, hk, w3⟩ := s_simage a b c p q' r s h1.2.2 (pm_facts hf h2)
  rw [h2] at hT
  simp only [Bool.true_and] at hT
  simp only [Prod.mk.injEq] at hk
  refine call_of (w1) rfl (by simp) ?_
  try simp -dsimp
  try (first | exact fp_one (by decide) | refine fp_and (by decide) ?_)
  refine call_of (w2) rfl (by simp) ?_
  try simp -dsimp
  try (first | exact fp_one (by decide) | refine fp_and (by decide) ?_)
  refine call_of (w3) rfl (by simp) ?_
  try simp -dsimp
  try (first | exact fp_one (by decide) | refine fp_and (by decide) ?_)
  by_cases h3 : A = a ∧ B = b ∧ C = c
  case neg =>
    have e : T = false := by
      rw [hT, Bool.eq_false_iff]
      intro e
      rw [Bool.and_eq_true] at e
      exact h3 (hk.2 e.1)
    subst e
    refine ⟨fun e1 e2 e3 => absurd ⟨e1, e2, e3⟩ h3, fun _ => ?_⟩
    try simp -dsimp
  have e : T = okV t u := by rw [hT, hk.1 h3, Bool.true_and]
  subst e
  refine ⟨fun _ _ _ => ?_, fun h => absurd h3.2.2 (h h3.1 h3.2.1)⟩
  refine call_of (w4) rfl (by simp) ?_
  try simp -dsimp
  try (first | exact fp_one (by decide) | refine fp_and (by decide) ?_)
theorem s_ssuit (f a b c p q' r s t u : Int) : Sp Try.prog 99 [vi f, aL a b c, aG p q' r s t u] (vb (decide (0 ≤ f ∧ f ≤ 1) && okL a b c && suit f a b c p q' r s t u)) [] := s_ssuit' f a b c p q' r s t u _ rfl
end Go.Proofs.YtihkjljafjhniaaEv
namespace Go.Proofs.YtihkjljafjhniaaEv
open Go Go.Proofs
set_option maxRecDepth 10000
theorem s_szP (f a b c : Int) (l : List Int) (n : Int) (hc : l.length ≤ maxLen) (hn : 0 ≤ n ∧ n ≤ 1048576) : Sp Try.prog 14 [aP f a b c l, vi n] (vi (if n < l.length then -1 else n - l.length)) [] := by
  refine sp_of (m := no) mixed Try.func14 k14 ?_
  simp -dsimp [q]
  refine call_of (s_sz l n hc hn) rfl (by simp) ?_
  try simp -dsimp
  try (first | exact fp_one (by decide) | refine fp_and (by decide) ?_)
  split <;> omega
theorem s_toL (a b c : Int) : Sp Try.prog 33 [aL a b c] (aL a b c) [] := by
  refine sp_of (m := no) mixed Try.func33 k33 ?_
  simp -dsimp [q]
theorem s_toP (f a b c : Int) (l : List Int) (hc : l.length ≤ 1048576) : Sp Try.prog 16 [aP f a b c l] (oP f a b c 0) [.row 0 2 (is l)] := by
  refine sp_of (m := no) mixed Try.func16 k16 ?_
  simp -dsimp [q]
  refine call_of (s_toL a b c) rfl (by simp) ?_
  try simp -dsimp
  try (first | exact fp_one (by decide) | refine fp_and (by decide) ?_)
  refine call_of (s_to l hc) rfl (by simp) ?_
  try simp -dsimp
  try (first | exact fp_one (by decide) | refine fp_and (by decide) ?_)
theorem s_eqL (a b c a' b' c' : Int) : Sp Try.prog 83 [aL a b c, aL a' b' c'] (vb (decide (a = a' ∧ b = b' ∧ c = c'))) [] := by
  refine sp_of (m := no) mixed Try.func83 k83 ?_
  simp -dsimp [q]
  refine ⟨fun h e => absurd e h, fun h => ⟨fun h2 _ e => absurd e h2, fun h2 => ⟨fun h3 _ _ => h3, fun h3 => ⟨h, h2, h3⟩⟩⟩⟩
theorem s_eqP (f a b c : Int) (l : List Int) (f' a' b' c' : Int) (l' : List Int) (hl : l.length ≤ 1048576) : Sp Try.prog 19 [aP f a b c l, aP f' a' b' c' l'] (vb (decide (f = f' ∧ (a = a' ∧ b = b' ∧ c = c') ∧ l = l'))) [] := by
  refine sp_of (m := no) mixed Try.func19 k19 ?_
  have w1 := s_eqL a b c a' b' c'
  generalize hp : decide (a = a' ∧ b = b' ∧ c = c') = p at w1
  simp -dsimp [q]
  refine ⟨fun h e => absurd e h, fun h => ?_⟩
  refine call_of (w1) rfl (by simp) ?_
  try simp -dsimp
  try (first | exact fp_one (by decide) | refine fp_and (by decide) ?_)
  cases p
  · simp -dsimp
    have := of_decide_eq_false hp
    intro _ e1 e2 e3
    exact absurd ⟨e1, e2, e3⟩ this
  · simp -dsimp
    have := of_decide_eq_true hp
    refine call_of (s_eq l l' hl) rfl (by simp) ?_
    try simp -dsimp
    try (first | exact fp_one (by decide) | refine fp_and (by decide) ?_)
    exact ⟨fun h3 _ _ _ _ => h3, fun h3 => ⟨h, this, h3⟩⟩
theorem s_eqV (x y x' y' : Int) : Sp Try.prog 18 [aV x y, aV x' y'] (vb (decide (x = x' ∧ y = y'))) [] := by
  refine sp_of (m := no) mixed Try.func18 k18 ?_
  simp -dsimp [q]
  refine ⟨fun h e => absurd e h, fun h => ⟨fun h2 _ => h2, fun h2 => ⟨h, h2⟩⟩⟩
abbrev vvs' (l : List (Int × Int)) : V := .sl 2 (vs l)
theorem s_toV (x y : Int) : Sp Try.prog 41 [aV x y] (aV x y) [] := by
  refine sp_of (m := no) mixed Try.func41 k41 ?_
  simp -dsimp [q]
theorem s_szVS (l : List (Int × Int)) (n : Int) (h : l.length ≤ maxLen) (hn : 0 ≤ n ∧ n ≤ 1048576) : Sp Try.prog 20 [.v (vvs' l), vi n] (vi (if n < l.length then -1 else n - l.length)) [] := by
  refine sp_of (m := no) mixed Try.func20 k20 ?_
  rw [mLen] at h
  simp -dsimp [q]
  rw [w64 (by omega) (by omega)]
  constructor
  · intro h1 h2; omega
  · intro h1; rw [if_neg (by omega)]
theorem s_toVS (l : List (Int × Int)) (h : l.length ≤ 1048576) : Sp Try.prog 22 [.v (vvs' l)] (.sli 0) [.row 2 29 (vs l)] := by
  refine sp_of (m := no) mixed Try.func22 k22 ?_
  simp -dsimp [q]
  refine ⟨⟨by omega, by omega⟩, ?_⟩
  refine awp_it (true :: false :: false :: true :: true :: []) (fun i : Nat => [(4, vi i)]) (fun i => [(0, .row 2 29 (vs (l.take i ++ List.replicate (l.length - i) (0, 0))))]) (fun i => i ≤ l.length) (fun i => l.length - i) 0 ?_
  intro s0 e
  simp -dsimp at e
  subst e
  refine ⟨?_, ?_⟩
  · simp
  intro i hi
  simp -dsimp
  refine ⟨fun h1 => ⟨h1, fun x y ha => ?_⟩, fun h1 => ?_⟩
  · refine call_of (s_toV x y) rfl (by simp) ?_
    try simp -dsimp
    try (first | exact fp_one (by decide) | refine fp_and (by decide) ?_)
    refine ⟨by omega, by omega, i + 1, ⟨by rw [w64 (by omega) (by omega)]; simp, ?_⟩, by omega, by omega⟩
    exact fill_set ha
  · have : i = l.length := by omega
    subst this
    simp
theorem s_eqVS (xs ys : List (Int × Int)) (hx : xs.length ≤ 1048576) : Sp Try.prog 24 [.v (vvs' xs), .v (vvs' ys)] (vb (decide (xs = ys))) [] := by
  refine sp_of (m := no) mixed Try.func24 k24 ?_
  simp -dsimp [q]
  refine ⟨fun h e => h (by rw [e]), fun hl => ?_⟩
  refine awp_it (true :: true :: false :: false :: false :: true :: []) (fun i : Nat => [(5, vi i)]) (fun i => []) (fun i => i ≤ xs.length ∧ xs.take i = ys.take i) (fun i => xs.length - i) 0 ?_
  intro s0 e
  simp -dsimp at e
  subst e
  refine ⟨?_, ?_⟩
  · simp
  intro i hi
  simp -dsimp
  obtain ⟨hi, ht⟩ := hi
  refine ⟨fun h1 => ⟨h1, fun a a' ha => ⟨by omega, fun b b' hb => ?_⟩⟩, fun h1 => ?_⟩
  · refine call_of (s_eqV a a' b b') rfl (by simp) ?_
    try simp -dsimp
    try (first | exact fp_one (by decide) | refine fp_and (by decide) ?_)
    refine ⟨fun hn e => ?_, fun e e' => ⟨i + 1, by rw [w64 (by omega) (by omega)]; simp, ⟨by omega, ?_⟩, by omega⟩⟩
    · subst e
      rw [ha] at hb
      cases hb
      rcases hn with h | h <;> exact h rfl
    · subst e e'
      rw [List.take_add_one, List.take_add_one, ht, ha, hb]
  · have h2 : i = xs.length := by omega
    subst h2
    rw [List.take_length, List.take_of_length_le (by omega)] at ht
    exact ht
def mkV (k : Int) (n : Nat) : List (Int × Int) := (List.range n).map fun i : Nat => (k + 2 * i, k + 2 * i + 1)
theorem s_markVS (l : List (Int × Int)) (k : Int) (t : Nat) (hx : l.length ≤ 1048576) (hk : 0 ≤ k ∧ k ≤ 1000000000) : SpG Try.prog 28 [.sli 0, vi k] [.row 2 t (vs l)] (vi (k + 2 * l.length)) [.row 2 t (vs (mkV k l.length))] := by
  refine sg_of (m := no) mixed Try.func28 k28 ?_
  simp -dsimp [q]
  refine awp_it (true :: true :: false :: false :: false :: true :: []) (fun i : Nat => [(1, vi (k + 2 * i)), (5, vi i)]) (fun i => [(0, .row 2 t (vs (mkV k i ++ l.drop i)))]) (fun i => i ≤ l.length) (fun i => l.length - i) 0 ?_
  intro s0 e
  simp -dsimp at e
  subst e
  refine ⟨?_, ?_⟩
  · simp [mkV]
  intro i hi
  simp -dsimp [mkV]
  have hlen : ((List.range i).map fun i : Nat => (k + 2 * (i : Int), k + 2 * (i : Int) + 1)).length = i := by simp
  have hsnoc : ((List.range (i + 1)).map fun i : Nat => (k + 2 * (i : Int), k + 2 * (i : Int) + 1)) = ((List.range i).map fun i : Nat => (k + 2 * (i : Int), k + 2 * (i : Int) + 1)) ++ [(k + 2 * (i : Int), k + 2 * (i : Int) + 1)] := by rw [List.range_succ, List.map_append]; rfl
  generalize hM : ((List.range i).map fun i : Nat => (k + 2 * (i : Int), k + 2 * (i : Int) + 1)) = M at *
  refine ⟨fun h1 => ?_, fun h1 => ?_⟩
  · have hd := List.drop_eq_getElem_cons (show i < l.length by omega)
    rw [hd]
    refine ⟨h1, by omega, fun a b hab => ⟨h1, by omega, fun a' b' hab' => ⟨i + 1, ⟨⟨?_, by rw [w64 (by omega) (by omega)]; simp⟩, ?_⟩, by omega, by omega⟩⟩⟩
    · rw [w64 (n := k + 2 * (i : Int) + 1) (by omega) (by omega), w64 (by omega) (by omega)]; omega
    · rw [List.set_cons_zero, List.getElem?_append_right (by omega), hlen] at hab'
      simp only [Nat.sub_self, List.getElem?_cons_zero, Option.some.injEq, Prod.mk.injEq] at hab'
      rw [w64 (by omega) (by omega), ← hab'.1, hsnoc]
      simp
      rw [hd, List.set_cons_zero]
  · have : i = l.length := by omega
    subst this
    simp [← hM]
/-! marks on patterns -/
theorem s_markP (f a b c : Int) (l : List Int) (k : Int) (t : Nat) (hc : l.length ≤ 1048576) (hk : 0 ≤ k ∧ k ≤ 1000000000) : SpG Try.prog 27 [oP f a b c 0, vi k] [.row 0 t (is l)] (vi (k + l.length)) [.row 0 t (is ((List.range l.length).map fun i : Nat => k + i))] := by
  refine sg_of (m := fun f => f == 90) mixed Try.func27 k27 ?_
  simp -dsimp [q]
  refine callM_of rfl (s_mark l k hc hk t) (by simp) ?_
  try simp -dsimp
  try (first | exact fp_one (by decide) | refine fp_and (by decide) ?_)
theorem s_heldP (f a b c : Int) (l : List Int) (k : Int) (t : Nat) (hc : l.length ≤ 1048576) (hk : 0 ≤ k ∧ k ≤ 1000000000) (hh : l = (List.range l.length).map fun i : Nat => k + i) : SpG Try.prog 29 [oP f a b c 0, vi k] [.row 0 t (is l)] (vi (k + l.length)) [.row 0 t (is l)] := by
  refine sg_of (m := fun f => f == 91) mixed Try.func29 k29 ?_
  simp -dsimp [q]
  refine callM_of rfl (s_held l k hc hk hh t) (by simp) ?_
  try simp -dsimp
  try (first | exact fp_one (by decide) | refine fp_and (by decide) ?_)
  intro hneg
  omega
theorem s_mark0 (k : Int) : SpG Try.prog 90 [.nil 0, vi k] [] (vi k) [] := by
  refine sg_of (m := no) mixed Try.func90 k90 ?_
  simp -dsimp [q]
  refine awp_it (true :: true :: false :: false :: false :: true :: []) (fun i : Nat => [(5, vi i)]) (fun i => []) (fun i => i = 0) (fun i => 0) 0 ?_
  intro s0 e
  simp -dsimp at e
  subst e
  refine ⟨?_, ?_⟩
  · simp
  rintro i rfl
  simp -dsimp
theorem s_held0 (k : Int) : SpG Try.prog 91 [.nil 0, vi k] [] (vi k) [] := by
  refine sg_of (m := no) mixed Try.func91 k91 ?_
  simp -dsimp [q]
  refine awp_it (true :: true :: false :: false :: false :: true :: []) (fun i : Nat => [(5, vi i)]) (fun i => []) (fun i => i = 0) (fun i => 0) 0 ?_
  intro s0 e
  simp -dsimp at e
  subst e
  refine ⟨?_, ?_⟩
  · simp
  rintro i rfl
  simp -dsimp
abbrev zP' : A := .ag [vi 0, vi 0, vi 0, vi 0, .nil 0]
theorem s_markP0 (k : Int) : SpG Try.prog 27 [zP', vi k] [] (vi k) [] := by
  refine sg_of (m := fun f => f == 90) mixed Try.func27 k27 ?_
  simp -dsimp [q]
  refine callM_of rfl (s_mark0 k) (by simp) ?_
  try simp -dsimp
  try (first | exact fp_one (by decide) | refine fp_and (by decide) ?_)
theorem s_heldP0 (k : Int) (hk : 0 ≤ k) : SpG Try.prog 29 [zP', vi k] [] (vi k) [] := by
  refine sg_of (m := fun f => f == 91) mixed Try.func29 k29 ?_
  simp -dsimp [q]
  refine callM_of rfl (s_held0 k) (by simp) ?_
  try simp -dsimp
  try (first | exact fp_one (by decide) | refine fp_and (by decide) ?_)
  intro hneg
  omega
end Go.Proofs.YtihkjljafjhniaaEv
namespace Go.Proofs.YtihkjljafjhniaaEv
open Go Go.Proofs
set_option maxRecDepth 10000
abbrev G6 := M4 × Int × Int
def vg (g : G6) : V := .ag [.int .i64 g.1.1, .int .i64 g.1.2.1, .int .i64 g.1.2.2.1, .int .i64 g.1.2.2.2, .int .i64 g.2.1, .int .i64 g.2.2]
def gs (l : List G6) : List V := l.map vg
abbrev aG6 (g : G6) : A := aG g.1.1 g.1.2.1 g.1.2.2.1 g.1.2.2.2 g.2.1 g.2.2
def smallG (g : G6) : Prop := (g.1.1.natAbs ≤ 1000 ∧ g.1.2.1.natAbs ≤ 1000) ∧ (g.1.2.2.1.natAbs ≤ 1000 ∧ g.1.2.2.2.natAbs ≤ 1000) ∧ g.2.1.natAbs ≤ 1000 ∧ g.2.2.natAbs ≤ 1000
def mvV (a b c : Int) (g : G6) (v : Int × Int) : Int × Int := (redX a b c (g.1.1 * v.1 + g.1.2.1 * v.2 + g.2.1) (g.1.2.2.1 * v.1 + g.1.2.2.2 * v.2 + g.2.2), (g.1.2.2.1 * v.1 + g.1.2.2.2 * v.2 + g.2.2) % c)
theorem s_take (a b c : Int) (g : G6) (x y : Int) (hg : smallG g) (ha : 1 ≤ a ∧ a ≤ 64) (hb : 0 ≤ b ∧ b < a) (hc : 1 ≤ c ∧ c ≤ 64) (hx : x.natAbs ≤ 1000 ∧ y.natAbs ≤ 1000) : Sp Try.prog 104 [aL a b c, aG6 g, aV x y] (aV (mvV a b c g (x, y)).1 (mvV a b c g (x, y)).2) [] := by
  refine sp_of (m := no) mixed Try.func104 k104 ?_
  obtain ⟨g1, g2, g3⟩ := hg
  have h1 := mul_bd g1.1 hx.1
  have h2 := mul_bd g1.2 hx.2
  have h3 := mul_bd g2.1 hx.1
  have h4 := mul_bd g2.2 hx.2
  simp -dsimp [q]
  refine call_of (s_gapply _ _ _ _ _ _ x y ⟨g1, g2⟩ ⟨by omega, by omega⟩ ⟨by omega, by omega⟩) rfl (by simp) ?_
  try simp -dsimp
  try (first | exact fp_one (by decide) | refine fp_and (by decide) ?_)
  refine call_of (s_reduce a b c _ _ ha hb hc (by omega) (by omega)) rfl (by simp) ?_
  try simp -dsimp
  try (first | exact fp_one (by decide) | refine fp_and (by decide) ?_)
  exact ⟨rfl, rfl⟩
theorem s_smove (a b c : Int) (g : G6) (x y : Int) (hg : smallG g) (ha : 1 ≤ a ∧ a ≤ 64) (hb : 0 ≤ b ∧ b < a) (hc : 1 ≤ c ∧ c ≤ 64) (hx : x.natAbs ≤ 1000 ∧ y.natAbs ≤ 1000) : Sp Try.prog 100 [aL a b c, aG6 g, aV x y] (aV (mvV a b c g (x, y)).1 (mvV a b c g (x, y)).2) [] := by
  refine sp_of (m := no) mixed Try.func100 k100 ?_
  obtain ⟨g1, g2, g3⟩ := hg
  have h1 := mul_bd g1.1 hx.1
  have h2 := mul_bd g1.2 hx.2
  have h3 := mul_bd g2.1 hx.1
  have h4 := mul_bd g2.2 hx.2
  simp -dsimp [q]
  refine call_of (s_sgapply _ _ _ _ _ _ x y ⟨g1, g2⟩ ⟨by omega, by omega⟩ ⟨by omega, by omega⟩) rfl (by simp) ?_
  try simp -dsimp
  try (first | exact fp_one (by decide) | refine fp_and (by decide) ?_)
  refine call_of (s_sreduce a b c _ _ ha hb hc (by omega) (by omega)) rfl (by simp) ?_
  try simp -dsimp
  try (first | exact fp_one (by decide) | refine fp_and (by decide) ?_)
  exact ⟨rfl, rfl⟩
theorem s_fcode (f a b c : Int) : Sp Try.prog 102 [vi f, aL a b c] (vi (if 0 ≤ f ∧ f ≤ 1 ∧ okL a b c = true then 0 else 1)) [] := by
  refine sp_of (m := no) mixed Try.func102 k102 ?_
  have w1 := s_isFr f
  have w2 := s_isL a b c
  simp -dsimp [q]
  by_cases h1 : 0 ≤ f ∧ f ≤ 1
  case neg =>
    rw [decide_eq_false h1] at w1
    rw [if_neg (fun h => h1 ⟨h.1, h.2.1⟩)]
    refine call_of (w1) rfl (by simp) ?_
    try simp -dsimp
    try (first | exact fp_one (by decide) | refine fp_and (by decide) ?_)
  rw [decide_eq_true h1] at w1
  refine call_of (w1) rfl (by simp) ?_
  try simp -dsimp
  try (first | exact fp_one (by decide) | refine fp_and (by decide) ?_)
  by_cases h2 : okL a b c = true
  case neg =>
    rw [if_neg (fun h => h2 h.2.2)]
    rw [show okL a b c = false by simpa using h2] at w2
    refine call_of (w2) rfl (by simp) ?_
    try simp -dsimp
    try (first | exact fp_one (by decide) | refine fp_and (by decide) ?_)
  rw [if_pos ⟨h1.1, h1.2, h2⟩]
  rw [h2] at w2
  refine call_of (w2) rfl (by simp) ?_
  try simp -dsimp
  try (first | exact fp_one (by decide) | refine fp_and (by decide) ?_)
theorem s_s6code (f a b c : Int) (t : Bool) : Sp Try.prog 98 [vi f, aL a b c, vb t] (vi (if 0 ≤ f ∧ f ≤ 1 ∧ okL a b c = true then (if t = true then 0 else 2) else 1)) [] := by
  refine sp_of (m := no) mixed Try.func98 k98 ?_
  have w1 := s_scode f a b c
  simp -dsimp [q]
  by_cases h1 : 0 ≤ f ∧ f ≤ 1 ∧ okL a b c = true
  case neg =>
    rw [if_neg h1] at *
    refine call_of (w1) rfl (by simp) ?_
    try simp -dsimp
    try (first | exact fp_one (by decide) | refine fp_and (by decide) ?_)
  rw [if_pos h1] at *
  refine call_of (w1) rfl (by simp) ?_
  try simp -dsimp
  try (first | exact fp_one (by decide) | refine fp_and (by decide) ?_)
def suitG (f a b c : Int) (g : G6) : Bool := suit f a b c g.1.1 g.1.2.1 g.1.2.2.1 g.1.2.2.2 g.2.1 g.2.2
theorem suit_small {f a b c : Int} (hf : 0 ≤ f ∧ f ≤ 1) {g : G6} (h : suitG f a b c g = true) : smallG g ∧ (g.1.1.natAbs ≤ 1 ∧ g.1.2.1.natAbs ≤ 1) ∧ (g.1.2.2.1.natAbs ≤ 1 ∧ g.1.2.2.2.natAbs ≤ 1) := by
  simp only [suitG, suit, Bool.and_eq_true] at h
  obtain ⟨h1, h2, _⟩ := pm_facts hf h.1.1
  have h3 := okV_spec.1 h.2
  exact ⟨⟨⟨by omega, by omega⟩, ⟨by omega, by omega⟩, by omega, by omega⟩, h1, h2⟩
def fixN (a b c : Int) (g : G6) (l : List (Int × Int)) : Nat := l.countP fun v => decide (mvV a b c g v = v)
theorem fixN_succ {a b c : Int} {g : G6} {l : List (Int × Int)} {i : Nat} {v : Int × Int} (h : l[i]? = some v) : fixN a b c g (l.take (i + 1)) = fixN a b c g (l.take i) + if mvV a b c g v = v then 1 else 0 := by
  unfold fixN
  rw [List.take_add_one, h, List.countP_append]
  simp [List.countP_cons]
theorem s_fixed (f a b c : Int) (g : G6) (hf : 0 ≤ f ∧ f ≤ 1) (h : okL a b c = true) (hg : suitG f a b c g = true) : Sp Try.prog 35 [vi f, aL a b c, aG6 g] (.tu [vi (fixN a b c g (cellsL c.toNat a.toNat)), vi 0]) [] := by
  obtain ⟨ha, hc, hb, hac⟩ := okL_spec.1 h
  refine sp_of (m := no) mixed Try.func35 k35 ?_
  have w1 := s_fcode f a b c
  rw [if_pos ⟨hf.1, hf.2, h⟩] at w1
  have w2 := s_suit f a b c g.1.1 g.1.2.1 g.1.2.2.1 g.1.2.2.2 g.2.1 g.2.2 hf h
  rw [show suit f a b c g.1.1 g.1.2.1 g.1.2.2.1 g.1.2.2.2 g.2.1 g.2.2 = true from hg] at w2
  obtain ⟨hsm, _⟩ := suit_small hf hg
  simp -dsimp [q]
  refine call_of (w1) rfl (by simp) ?_
  try simp -dsimp
  try (first | exact fp_one (by decide) | refine fp_and (by decide) ?_)
  refine call_of (w2) rfl (by simp) ?_
  try simp -dsimp
  try (first | exact fp_one (by decide) | refine fp_and (by decide) ?_)
  refine call_of (s_cells a b c ha hc) rfl (by simp) ?_
  try simp -dsimp
  try (first | exact fp_one (by decide) | refine fp_and (by decide) ?_)
  have hN : (cellsL c.toNat a.toNat).length ≤ 4096 := by rw [cellsL_len]; exact nat_ac ha hc (by omega)
  refine awp_it (false :: false :: false :: false :: true :: true :: false :: false :: false :: true :: false :: false :: false :: false :: false :: false :: false :: false :: false :: false :: false :: false :: false :: false :: true :: true :: true :: []) (fun i : Nat => [(9, vi (fixN a b c g ((cellsL c.toNat a.toNat).take i))), (26, vi i)]) (fun i => []) (fun i => i ≤ (cellsL c.toNat a.toNat).length) (fun i => (cellsL c.toNat a.toNat).length - i) 0 ?_
  intro s0 e
  simp -dsimp at e
  subst e
  refine ⟨?_, ?_⟩
  · simp [fixN]
  intro i hi
  simp -dsimp
  refine ⟨fun h1 => ⟨h1, fun x y ha' => ?_⟩, fun h1 => ?_⟩
  · obtain ⟨⟨c1, c2⟩, _⟩ := cell_of ha.1 hc.1 ha'
    refine call_of (s_take a b c g x y hsm ha hb hc ⟨by omega, by omega⟩) rfl (by simp) ?_
    try simp -dsimp
    try (first | exact fp_one (by decide) | refine fp_and (by decide) ?_)
    have hs := fixN_succ (a := a) (b := b) (c := c) (g := g) ha'
    have hle : fixN a b c g ((cellsL c.toNat a.toNat).take i) ≤ i := Nat.le_trans List.countP_le_length (by simp; omega)
    refine ⟨fun e1 e2 => ⟨i + 1, ⟨?_, by rw [w64 (by omega) (by omega)]; simp⟩, by omega, by omega⟩, fun hn => ⟨i + 1, ⟨?_, by rw [w64 (by omega) (by omega)]; simp⟩, by omega, by omega⟩⟩
    · rw [hs, if_pos (Prod.ext e1 e2), w64 (by omega) (by omega)]; simp
    · rw [hs, if_neg (fun e => hn (congrArg Prod.fst e) (congrArg Prod.snd e))]; simp
  · have : i = (cellsL c.toNat a.toNat).length := by omega
    subst this
    simp
theorem s_fixed_bad (f a b c : Int) (g : G6) (h : ¬ (0 ≤ f ∧ f ≤ 1 ∧ okL a b c = true)) : Sp Try.prog 35 [vi f, aL a b c, aG6 g] (.tu [vi 0, vi 1]) [] := by
  refine sp_of (m := no) mixed Try.func35 k35 ?_
  have w1 := s_fcode f a b c
  rw [if_neg h] at w1
  simp -dsimp [q]
  refine call_of (w1) rfl (by simp) ?_
  try simp -dsimp
  try (first | exact fp_one (by decide) | refine fp_and (by decide) ?_)
theorem s_fixed_far (f a b c : Int) (g : G6) (hf : 0 ≤ f ∧ f ≤ 1) (h : okL a b c = true) (hg : suitG f a b c g = false) : Sp Try.prog 35 [vi f, aL a b c, aG6 g] (.tu [vi 0, vi 2]) [] := by
  refine sp_of (m := no) mixed Try.func35 k35 ?_
  have w1 := s_fcode f a b c
  rw [if_pos ⟨hf.1, hf.2, h⟩] at w1
  have w2 := s_suit f a b c g.1.1 g.1.2.1 g.1.2.2.1 g.1.2.2.2 g.2.1 g.2.2 hf h
  rw [show suit f a b c g.1.1 g.1.2.1 g.1.2.2.1 g.1.2.2.2 g.2.1 g.2.2 = false from hg] at w2
  simp -dsimp [q]
  refine call_of (w1) rfl (by simp) ?_
  try simp -dsimp
  try (first | exact fp_one (by decide) | refine fp_and (by decide) ?_)
  refine call_of (w2) rfl (by simp) ?_
  try simp -dsimp
  try (first | exact fp_one (by decide) | refine fp_and (by decide) ?_)
theorem s_sfixed (f a b c : Int) (g : G6) (hf : 0 ≤ f ∧ f ≤ 1) (h : okL a b c = true) (hg : suitG f a b c g = true) : Sp Try.prog 32 [vi f, aL a b c, aG6 g] (.tu [vi (fixN a b c g (cellsL c.toNat a.toNat)), vi 0]) [] := by
  obtain ⟨ha, hc, hb, hac⟩ := okL_spec.1 h
  refine sp_of (m := no) mixed Try.func32 k32 ?_
  have w1 := s_s6code f a b c true
  rw [if_pos ⟨hf.1, hf.2, h⟩, if_pos rfl] at w1
  have w2 := s_ssuit' f a b c g.1.1 g.1.2.1 g.1.2.2.1 g.1.2.2.2 g.2.1 g.2.2 true (by rw [decide_eq_true hf, h]; exact hg.symm)
  obtain ⟨hsm, _⟩ := suit_small hf hg
  simp -dsimp [q]
  refine call_of (w2) rfl (by simp) ?_
  try simp -dsimp
  try (first | exact fp_one (by decide) | refine fp_and (by decide) ?_)
  refine call_of (w1) rfl (by simp) ?_
  try simp -dsimp
  try (first | exact fp_one (by decide) | refine fp_and (by decide) ?_)
  refine call_of (s_scells a b c ha hc) rfl (by simp) ?_
  try simp -dsimp
  try (first | exact fp_one (by decide) | refine fp_and (by decide) ?_)
  have hN : (cellsL c.toNat a.toNat).length ≤ 4096 := by rw [cellsL_len]; exact nat_ac ha hc (by omega)
  refine awp_it (false :: false :: false :: false :: true :: true :: false :: false :: false :: true :: true :: true :: []) (fun i : Nat => [(10, vi (fixN a b c g ((cellsL c.toNat a.toNat).take i))), (11, vi i)]) (fun i => []) (fun i => i ≤ (cellsL c.toNat a.toNat).length) (fun i => (cellsL c.toNat a.toNat).length - i) 0 ?_
  intro s0 e
  simp -dsimp at e
  subst e
  refine ⟨?_, ?_⟩
  · simp [fixN]
  intro i hi
  simp -dsimp
  refine ⟨fun h1 => ⟨h1, fun x y ha' => ?_⟩, fun h1 => ?_⟩
  · obtain ⟨⟨c1, c2⟩, _⟩ := cell_of ha.1 hc.1 ha'
    refine call_of (s_smove a b c g x y hsm ha hb hc ⟨by omega, by omega⟩) rfl (by simp) ?_
    try simp -dsimp
    try (first | exact fp_one (by decide) | refine fp_and (by decide) ?_)
    have hs := fixN_succ (a := a) (b := b) (c := c) (g := g) ha'
    have hle : fixN a b c g ((cellsL c.toNat a.toNat).take i) ≤ i := Nat.le_trans List.countP_le_length (by simp; omega)
    simp -dsimp [ha']
    refine ⟨h1, ?_⟩
    refine ⟨fun e1 e2 => ⟨i + 1, ⟨?_, by rw [w64 (by omega) (by omega)]; simp⟩, by omega, by omega⟩, fun hn => ⟨i + 1, ⟨?_, by rw [w64 (by omega) (by omega)]; simp⟩, by omega, by omega⟩⟩
    · rw [hs, if_pos (Prod.ext e1 e2), w64 (by omega) (by omega)]; simp
    · rw [hs, if_neg (fun e => hn (congrArg Prod.fst e) (congrArg Prod.snd e))]; simp
  · have : i = (cellsL c.toNat a.toNat).length := by omega
    subst this
    simp
theorem s_sfixed_bad (f a b c : Int) (g : G6) (h : ¬ (0 ≤ f ∧ f ≤ 1 ∧ okL a b c = true)) : Sp Try.prog 32 [vi f, aL a b c, aG6 g] (.tu [vi 0, vi 1]) [] := by
  refine sp_of (m := no) mixed Try.func32 k32 ?_
  have w2 := s_ssuit f a b c g.1.1 g.1.2.1 g.1.2.2.1 g.1.2.2.2 g.2.1 g.2.2
  generalize (decide (0 ≤ f ∧ f ≤ 1) && okL a b c && suit f a b c g.1.1 g.1.2.1 g.1.2.2.1 g.1.2.2.2 g.2.1 g.2.2) = T at w2
  have w1 := s_s6code f a b c T
  rw [if_neg h] at w1
  simp -dsimp [q]
  refine call_of (w2) rfl (by simp) ?_
  try simp -dsimp
  try (first | exact fp_one (by decide) | refine fp_and (by decide) ?_)
  refine call_of (w1) rfl (by simp) ?_
  try simp -dsimp
  try (first | exact fp_one (by decide) | refine fp_and (by decide) ?_)
theorem s_sfixed_far (f a b c : Int) (g : G6) (hf : 0 ≤ f ∧ f ≤ 1) (h : okL a b c = true) (hg : suitG f a b c g = false) : Sp Try.prog 32 [vi f, aL a b c, aG6 g] (.tu [vi 0, vi 2]) [] := by
  refine sp_of (m := no) mixed Try.func32 k32 ?_
  have w1 := s_s6code f a b c false
  rw [if_pos ⟨hf.1, hf.2, h⟩] at w1
  have w2 := s_ssuit' f a b c g.1.1 g.1.2.1 g.1.2.2.1 g.1.2.2.2 g.2.1 g.2.2 false (by rw [decide_eq_true hf, h]; exact hg.symm)
  simp -dsimp [q]
  refine call_of (w2) rfl (by simp) ?_
  try simp -dsimp
  try (first | exact fp_one (by decide) | refine fp_and (by decide) ?_)
  refine call_of (w1) rfl (by simp) ?_
  try simp -dsimp
  try (first | exact fp_one (by decide) | refine fp_and (by decide) ?_)
theorem s_toMat (a b c d : Int) : Sp Try.prog 101 [aM a b c d] (aM a b c d) [] := by
  refine sp_of (m := no) mixed Try.func101 k101 ?_
  simp -dsimp [q]
theorem s_toMo (g : G6) : Sp Try.prog 34 [aG6 g] (aG6 g) [] := by
  refine sp_of (m := no) mixed Try.func34 k34 ?_
  simp -dsimp [q]
  refine call_of (s_toMat _ _ _ _) rfl (by simp) ?_
  try simp -dsimp
  try (first | exact fp_one (by decide) | refine fp_and (by decide) ?_)
  refine call_of (s_toV _ _) rfl (by simp) ?_
  try simp -dsimp
  try (first | exact fp_one (by decide) | refine fp_and (by decide) ?_)
theorem fixed_both (f a b c : Int) (g : G6) : ∃ n k, Sp Try.prog 32 [vi f, aL a b c, aG6 g] (.tu [vi n, vi k]) [] ∧ Sp Try.prog 35 [vi f, aL a b c, aG6 g] (.tu [vi n, vi k]) [] := by
  by_cases h : 0 ≤ f ∧ f ≤ 1 ∧ okL a b c = true
  case neg => exact ⟨0, 1, s_sfixed_bad f a b c g h, s_fixed_bad f a b c g h⟩
  cases hg : suitG f a b c g
  · exact ⟨0, 2, s_sfixed_far f a b c g ⟨h.1, h.2.1⟩ h.2.2 hg, s_fixed_far f a b c g ⟨h.1, h.2.1⟩ h.2.2 hg⟩
  · exact ⟨_, 0, s_sfixed f a b c g ⟨h.1, h.2.1⟩ h.2.2 hg, s_fixed f a b c g ⟨h.1, h.2.1⟩ h.2.2 hg⟩
end Go.Proofs.YtihkjljafjhniaaEv
namespace Go.Proofs.YtihkjljafjhniaaEv
open Go Go.Proofs
set_option maxRecDepth 10000
theorem mget_enc {α : Type} [DecidableEq α] (enc : α → V) (hi : ∀ x y, enc x = enc y → x = y) (S : List α) (x : α) : mget (enc x) (S.map fun y => (enc y, V.bool true)) = if x ∈ S then some (.bool true) else none := by
  induction S with
  | nil => rfl
  | cons y S ih =>
    simp only [List.map_cons, mget]
    by_cases h : enc y = enc x
    · rw [if_pos (by rw [cdec_true]; exact h), if_pos (by rw [hi _ _ h]; simp)]
    · rw [if_neg (by rw [cdec_true]; exact h), ih]
      have : x ≠ y := fun e => h (by rw [e])
      simp [this]
theorem mput_enc {α : Type} [DecidableEq α] (enc : α → V) (hi : ∀ x y, enc x = enc y → x = y) (S : List α) (x : α) : mput (enc x) (.bool true) (S.map fun y => (enc y, V.bool true)) = (if x ∈ S then S else S ++ [x]).map fun y => (enc y, V.bool true) := by
  induction S with
  | nil => rfl
  | cons y S ih =>
    simp only [List.map_cons, mput]
    by_cases h : enc y = enc x
    · rw [if_pos (by rw [cdec_true]; exact h), if_pos (by rw [hi _ _ h]; simp), List.map_cons, h]
    · rw [if_neg (by rw [cdec_true]; exact h), ih]
      have : x ≠ y := fun e => h (by rw [e])
      by_cases hx : x ∈ S <;> simp [this, hx]
def sE (S : List (Int × Int)) : List (V × V) := S.map fun y => (vv y, V.bool true)
theorem vv_inj (x y : Int × Int) (h : vv x = vv y) : x = y := by
  obtain ⟨a, b⟩ := x
  obtain ⟨c, d⟩ := y
  simp only [vv, V.ag.injEq, List.cons.injEq, V.int.injEq, true_and, and_true] at h
  rw [h.1, h.2]
@[simp] theorem sE_nil : sE [] = [] := rfl
@[simp] theorem sE_len (S : List (Int × Int)) : (sE S).length = S.length := by simp [sE]
@[simp] theorem sE_get (S : List (Int × Int)) (x y : Int) : lkA (.bool false) false (mget (.ag [.int .i64 x, .int .i64 y]) (sE S)) = .v (.bool (decide ((x, y) ∈ S))) := by
  have := mget_enc vv vv_inj S (x, y)
  rw [show V.ag [.int .i64 x, .int .i64 y] = vv (x, y) from rfl, sE, this]
  by_cases h : (x, y) ∈ S <;> simp [h, lkA]
@[simp] theorem sE_put (S : List (Int × Int)) (x y : Int) : mput (.ag [.int .i64 x, .int .i64 y]) (.bool true) (sE S) = sE (if (x, y) ∈ S then S else S ++ [(x, y)]) := by
  have := mput_enc vv vv_inj S (x, y)
  rw [show V.ag [.int .i64 x, .int .i64 y] = vv (x, y) from rfl, sE, this, sE]
  by_cases h : (x, y) ∈ S <;> simp [h]
@[simp] theorem sE_keyed (S : List (Int × Int)) (x y : Int) : keyed 2 [1, 1] (.ag [.int .i64 x, .int .i64 y]) (sE S) ↔ True := by
  simp only [keyed, iff_true]
  refine ⟨rfl, rfl, fun p hp => ?_⟩
  obtain ⟨v, _, rfl⟩ := List.mem_map.1 hp
  exact ⟨rfl, rfl⟩
def bs (l : List Bool) : List V := l.map .bool
@[simp] theorem bs_len (l : List Bool) : (bs l).length = l.length := by simp [bs]
@[simp] theorem bs_get (l : List Bool) (n : Nat) (K : V → Prop) : fA ((bs l)[n]?) K = ∀ a, l[n]? = some a → K (.bool a) := by unfold bs; exact fA_map
@[simp] theorem bs_set (l : List Bool) (n : Nat) (b : Bool) : (bs l).set n (.bool b) = bs (l.set n b) := by simp [bs, List.map_set]
@[simp] theorem bs_rep (n : Nat) (b : Bool) : List.replicate n (V.bool b) = bs (List.replicate n b) := by simp [bs]
@[simp] theorem bs_inj (a b : List Bool) : bs a = bs b ↔ a = b := by
  constructor
  · exact fun h => (List.map_inj_right (fun x y e => by cases e; rfl)).1 h
  · rintro rfl; rfl
theorem pigeon {α : Type} [BEq α] [LawfulBEq α] : ∀ (S C : List α), S.Nodup → (∀ x ∈ S, x ∈ C) → S.length ≤ C.length
  | [], _, _, _ => Nat.zero_le _
  | x :: S, C, hn, hs => by
    rw [List.nodup_cons] at hn
    have h1 := pigeon S (C.erase x) hn.2 (fun y hy => (List.mem_erase_of_ne (fun e => hn.1 (by rw [← e]; exact hy))).2 (hs y (List.mem_cons_of_mem _ hy)))
    have h2 := hs x List.mem_cons_self
    rw [List.length_erase_of_mem h2] at h1
    have := List.length_pos_of_mem h2
    simp only [List.length_cons]
    omega
/-! the cells of a lattice, and marks on them -/
abbrev cl (a c : Int) : List (Int × Int) := cellsL c.toNat a.toNat
def inC (a c : Int) (v : Int × Int) : Prop := (0 ≤ v.1 ∧ v.1 < a) ∧ 0 ≤ v.2 ∧ v.2 < c
theorem inC_mv {a b c : Int} (ha : 1 ≤ a) (hc : 1 ≤ c) (g : G6) (v : Int × Int) : inC a c (mvV a b c g v) := red_lt ha hc
def ix (c : Int) (v : Int × Int) : Nat := (v.1 * c + v.2).toNat
theorem cl_ix {a c : Int} (ha : 1 ≤ a) (hc : 1 ≤ c) {v : Int × Int} (hv : inC a c v) : (cl a c)[ix c v]? = some v := by
  obtain ⟨x, y⟩ := v
  obtain ⟨h1, h2⟩ := hv
  simp only at h1 h2
  have h3 := (num_lt' h1 h2).2
  obtain ⟨n, rfl⟩ : ∃ n : Nat, c = n := ⟨c.toNat, by omega⟩
  obtain ⟨k, rfl⟩ : ∃ k : Nat, a = k := ⟨a.toNat, by omega⟩
  obtain ⟨i, rfl⟩ : ∃ i : Nat, x = i := ⟨x.toNat, by omega⟩
  obtain ⟨j, rfl⟩ : ∃ j : Nat, y = j := ⟨y.toNat, by omega⟩
  have hk : ix (n : Int) ((i : Int), (j : Int)) = i * n + j := by
    simp only [ix]
    omega
  have hlt : i * n + j < k * n := by
    have : ((i * n + j : Nat) : Int) < ((k * n : Nat) : Int) := by simpa using h3.2
    omega
  unfold cl
  rw [hk, Int.toNat_natCast, Int.toNat_natCast, cellsL_get n (by omega) k _ hlt]
  have h4 : (i * n + j) / n = i := by
    rw [Nat.div_eq_iff (by omega)]
    omega
  have h5 : (i * n + j) % n = j := by
    have := Nat.div_add_mod (i * n + j) n
    rw [h4, Nat.mul_comm] at this
    omega
  rw [h4, h5]
theorem cl_at {a c : Int} (ha : 1 ≤ a) (hc : 1 ≤ c) {i : Nat} {v : Int × Int} (h : (cl a c)[i]? = some v) : inC a c v ∧ ix c v = i := by
  obtain ⟨x, y⟩ := v
  obtain ⟨h1, _, h3⟩ := cell_of ha hc h
  exact ⟨h1, by simp only [ix]; omega⟩
theorem num_ix {a b c : Int} {v : Int × Int} (hv : inC a c v) : num a b c v.1 v.2 = v.1 * c + v.2 ∧ (0 ≤ v.1 * c + v.2 ∧ v.1 * c + v.2 < a * c) := by
  obtain ⟨h1, h2⟩ := hv
  refine ⟨?_, (num_lt' h1 h2).2⟩
  simp only [num, redX]
  rw [Int.ediv_eq_zero_of_lt h2.1 h2.2, Int.emod_eq_of_lt h2.1 h2.2, Int.zero_mul, Int.sub_zero, Int.emod_eq_of_lt h1.1 h1.2]
def marks (a c : Int) (S : List (Int × Int)) : List Bool := (cl a c).map fun v => decide (v ∈ S)
theorem marks_get {a c : Int} (ha : 1 ≤ a) (hc : 1 ≤ c) {v : Int × Int} (hv : inC a c v) (S : List (Int × Int)) : (marks a c S)[ix c v]? = some (decide (v ∈ S)) := by
  simp only [marks, List.getElem?_map, cl_ix ha hc hv, Option.map_some]
theorem marks_len {a c : Int} (S : List (Int × Int)) : (marks a c S).length = (cl a c).length := by simp [marks]
theorem marks_nil {a c : Int} : marks a c [] = List.replicate (cl a c).length false := by
  unfold marks
  rw [List.eq_replicate_iff]
  refine ⟨by simp, fun b hb => ?_⟩
  obtain ⟨v, _, rfl⟩ := List.mem_map.1 hb
  simp
theorem marks_set {a c : Int} (ha : 1 ≤ a) (hc : 1 ≤ c) {v : Int × Int} (hv : inC a c v) (S : List (Int × Int)) : (marks a c S).set (ix c v) true = marks a c (S ++ [v]) := by
  apply List.ext_getElem?
  intro j
  have hg := cl_ix ha hc hv
  rw [List.getElem?_set, marks_len]
  by_cases hj : ix c v = j
  · subst hj
    rw [if_pos rfl, if_pos (List.getElem?_eq_some_iff.1 hg).1]
    simp [marks, hg]
  · rw [if_neg hj]
    simp only [marks, List.getElem?_map]
    cases hw : (cl a c)[j]? with
    | none => rfl
    | some w =>
      have : w ≠ v := fun e => hj (by rw [← e]; exact (cl_at ha hc hw).2)
      simp [this]
/-! cycles -/
def wk (a b c : Int) (g : G6) : Nat → List (Int × Int) → Int × Int → List (Int × Int)
  | 0, S, _ => S
  | n + 1, S, u => if u ∈ S then S else wk a b c g n (S ++ [u]) (mvV a b c g u)
def wkF (a b c : Int) (g : G6) (S : List (Int × Int)) (u : Int × Int) : List (Int × Int) := wk a b c g ((cl a c).length + 1 - S.length) S u
def okSet (a c : Int) (S : List (Int × Int)) : Prop := S.Nodup ∧ ∀ v ∈ S, inC a c v
theorem okSet_len {a c : Int} (ha : 1 ≤ a) (hc : 1 ≤ c) {S : List (Int × Int)} (h : okSet a c S) : S.length ≤ (cl a c).length :=
  pigeon _ _ h.1 fun v hv => List.mem_of_getElem? (cl_ix ha hc (h.2 v hv))
theorem okSet_snoc {a c : Int} {S : List (Int × Int)} (h : okSet a c S) {u : Int × Int} (hu : inC a c u) (hn : u ∉ S) : okSet a c (S ++ [u]) := by
  refine ⟨?_, fun v hv => ?_⟩
  · rw [List.nodup_append]
    refine ⟨h.1, by simp, fun x hx y hy => ?_⟩
    simp only [List.mem_singleton] at hy
    subst hy
    exact fun e => hn (e ▸ hx)
  · rcases List.mem_append.1 hv with hv | hv
    · exact h.2 v hv
    · simp only [List.mem_singleton] at hv
      exact hv ▸ hu
theorem wkF_hit {a b c : Int} (ha : 1 ≤ a) (hc : 1 ≤ c) {g : G6} {S : List (Int × Int)} (h : okSet a c S) {u : Int × Int} (hu : u ∈ S) : wkF a b c g S u = S := by
  have := okSet_len ha hc h
  unfold wkF
  rw [show (cl a c).length + 1 - S.length = ((cl a c).length - S.length) + 1 by omega]
  simp [wk, hu]
theorem wkF_miss {a b c : Int} (ha : 1 ≤ a) (hc : 1 ≤ c) {g : G6} {S : List (Int × Int)} (h : okSet a c S) {u : Int × Int} (hi : inC a c u) (hu : u ∉ S) : wkF a b c g S u = wkF a b c g (S ++ [u]) (mvV a b c g u) ∧ S.length < (cl a c).length := by
  have := okSet_len ha hc (okSet_snoc h hi hu)
  simp only [List.length_append, List.length_singleton] at this
  refine ⟨?_, by omega⟩
  unfold wkF
  rw [show (cl a c).length + 1 - S.length = ((cl a c).length + 1 - (S ++ [u]).length) + 1 by simp; omega]
  simp [wk, hu]
def cy1 (a b c : Int) (g : G6) (st : List (Int × Int) × Nat) (v : Int × Int) : List (Int × Int) × Nat := if v ∈ st.1 then st else (wkF a b c g st.1 v, st.2 + 1)
def cyS (a b c : Int) (g : G6) (l : List (Int × Int)) : List (Int × Int) × Nat := l.foldl (cy1 a b c g) ([], 0)
theorem cyS_succ {a b c : Int} {g : G6} {l : List (Int × Int)} {i : Nat} {v : Int × Int} (h : l[i]? = some v) : cyS a b c g (l.take (i + 1)) = cy1 a b c g (cyS a b c g (l.take i)) v := by
  unfold cyS
  rw [List.take_add_one, h, List.foldl_append]
  rfl
theorem wk_ok {a b c : Int} (ha : 1 ≤ a) (hc : 1 ≤ c) {g : G6} : ∀ (n : Nat) (S : List (Int × Int)) (u : Int × Int), okSet a c S → inC a c u → okSet a c (wk a b c g n S u)
  | 0, S, u, h, _ => h
  | n + 1, S, u, h, hu => by
    simp only [wk]
    split
    · exact h
    · rename_i hn
      exact wk_ok ha hc n _ _ (okSet_snoc h hu hn) (inC_mv ha hc g u)
theorem cyS_ok {a b c : Int} (ha : 1 ≤ a) (hc : 1 ≤ c) {g : G6} : ∀ i, okSet a c (cyS a b c g ((cl a c).take i)).1 ∧ (cyS a b c g ((cl a c).take i)).2 ≤ i
  | 0 => by simp [cyS, okSet]
  | i + 1 => by
    obtain ⟨h1, h2⟩ := cyS_ok ha hc (g := g) i
    cases hv : (cl a c)[i]? with
    | none =>
      rw [List.take_of_length_le (by have := List.getElem?_eq_none_iff.1 hv; omega)]
      rw [List.take_of_length_le (by have := List.getElem?_eq_none_iff.1 hv; omega)] at h1 h2
      exact ⟨h1, by omega⟩
    | some v =>
      rw [cyS_succ hv]
      unfold cy1
      split
      · exact ⟨h1, by omega⟩
      · exact ⟨wk_ok ha hc _ _ _ h1 (cl_at ha hc hv).1, by simp only; omega⟩
theorem s_cyc (a b c : Int) (g : G6) (hg : smallG g) (ha : 1 ≤ a ∧ a ≤ 64) (hb : 0 ≤ b ∧ b < a) (hc : 1 ≤ c ∧ c ≤ 64) : Sp Try.prog 106 [aL a b c, aG6 g] (vi (cyS a b c g (cl a c)).2) [] := by
  refine sp_of (m := no) mixed Try.func106 k106 ?_
  have hN : (cl a c).length ≤ 4096 := by unfold cl; rw [cellsL_len]; exact nat_ac ha hc (by omega)
  have w := s_cells a b c ha hc
  change Sp _ _ _ _ [.row 2 29 (vs (cl a c))] at w
  have cls := @cl_at a c ha.1 hc.1
  have cyss := @cyS_succ a b c g (cl a c)
  have cyso := @cyS_ok a b c ha.1 hc.1 g
  have whit := @wkF_hit a b c ha.1 hc.1 g
  have wmiss := @wkF_miss a b c ha.1 hc.1 g
  generalize hL : cl a c = L at *
  simp -dsimp [q]
  refine call_of (w) rfl (by simp) ?_
  try simp -dsimp
  try (first | exact fp_one (by decide) | refine fp_and (by decide) ?_)
  refine awp_it (false :: false :: true :: true :: false :: true :: true :: false :: false :: false :: false :: false :: true :: true :: true :: []) (fun i : Nat => [(5, vi (cyS a b c g (L.take i)).2), (14, vi i)]) (fun i => [(2, .map [] (sE (cyS a b c g (L.take i)).1))]) (fun i => i ≤ L.length) (fun i => L.length - i) 0 ?_
  intro s0 e
  simp -dsimp at e
  subst e
  refine ⟨?_, ?_⟩
  · simp [cyS]
  intro i hi
  simp -dsimp
  obtain ⟨hok, hle⟩ := cyso i
  refine ⟨fun h1 => ⟨h1, fun x y hxy => ?_⟩, fun h1 => ?_⟩
  · obtain ⟨hin, _⟩ := cls hxy
    have hs := cyss hxy
    refine ⟨fun hm => ⟨i + 1, ⟨⟨?_, by rw [w64 (by omega) (by omega)]; simp⟩, ?_⟩, by omega, by omega⟩, fun hm => ?_⟩
    · rw [hs, cy1, if_pos hm]
    · rw [hs, cy1, if_pos hm]
    · rw [cy1, if_neg hm] at hs
      refine awp_it (false :: false :: true :: true :: false :: true :: true :: false :: false :: true :: false :: false :: true :: true :: true :: []) (fun s : List (Int × Int) × Int × Int => []) (fun s => [(2, .map [] (sE s.1)), (3, .box [vi s.2.1, vi s.2.2])]) (fun s => okSet a c s.1 ∧ inC a c s.2 ∧ wkF a b c g s.1 s.2 = wkF a b c g (cyS a b c g (L.take i)).1 (x, y)) (fun s => L.length - s.1.length) ((cyS a b c g (L.take i)).1, x, y) ?_
      intro s0 e
      simp -dsimp at e
      subst e
      refine ⟨?_, ?_⟩
      · exact ⟨by simp, hok, hin, rfl⟩
      rintro ⟨S, u, v⟩ ⟨k1, k2, k3⟩
      simp -dsimp
      refine ⟨fun hm2 => ?_, fun hm2 => ?_⟩
      · rw [if_neg hm2]
        obtain ⟨u1, u2⟩ := k2
        simp only at u1 u2
        refine call_of (s_take a b c g u v hg ha hb hc ⟨by omega, by omega⟩) rfl (by simp) ?_
        try simp -dsimp
        try (first | exact fp_one (by decide) | refine fp_and (by decide) ?_)
        obtain ⟨m1, m2⟩ := wmiss k1 ⟨u1, u2⟩ hm2
        simp only at m2
        refine ⟨S ++ [(u, v)], (mvV a b c g (u, v)).1, (mvV a b c g (u, v)).2, by simp, ⟨okSet_snoc k1 ⟨u1, u2⟩ hm2, inC_mv ha.1 hc.1 g _, ?_⟩, ?_⟩
        · rw [← k3]; exact m1.symm
        · simp only [List.length_append, List.length_singleton]; omega
      · have k4 : S = (cyS a b c g (L.take (i + 1))).1 := by
          rw [hs]
          simp only
          rw [← k3]
          exact (whit k1 hm2).symm
        refine ⟨i + 1, ⟨⟨?_, by rw [w64 (by omega) (by omega)]; simp⟩, by rw [k4]⟩, by omega, by omega⟩
        rw [hs, w64 (by omega) (by omega)]
        simp
  · have : i = L.length := by omega
    subst this
    simp
theorem s_scyc (a b c : Int) (g : G6) (hg : smallG g) (ha : 1 ≤ a ∧ a ≤ 64) (hb : 0 ≤ b ∧ b < a) (hc : 1 ≤ c ∧ c ≤ 64) : Sp Try.prog 105 [aL a b c, aG6 g] (vi (cyS a b c g (cl a c)).2) [] := by
  refine sp_of (m := no) mixed Try.func105 k105 ?_
  have hN : (cl a c).length ≤ 4096 := by unfold cl; rw [cellsL_len]; exact nat_ac ha hc (by omega)
  have hNN : ((cl a c).length : Int) = a * c := by unfold cl; rw [cellsL_len, Int.natCast_mul, Int.toNat_of_nonneg (by omega), Int.toNat_of_nonneg (by omega)]
  have w := s_scells a b c ha hc
  change Sp _ _ _ _ [.row 2 29 (vs (cl a c))] at w
  have cls := @cl_at a c ha.1 hc.1
  have cyss := @cyS_succ a b c g (cl a c)
  have cyso := @cyS_ok a b c ha.1 hc.1 g
  have whit := @wkF_hit a b c ha.1 hc.1 g
  have wmiss := @wkF_miss a b c ha.1 hc.1 g
  have mget := @marks_get a c ha.1 hc.1
  have mset := @marks_set a c ha.1 hc.1
  have mlen := @marks_len a c
  have mnil := @marks_nil a c
  generalize hL : cl a c = L at *
  simp -dsimp [q]
  refine call_of (w) rfl (by simp) ?_
  try simp -dsimp
  try (first | exact fp_one (by decide) | refine fp_and (by decide) ?_)
  refine ⟨by omega, ?_⟩
  refine awp_it (false :: false :: true :: true :: false :: true :: true :: true :: true :: []) (fun i : Nat => [(7, vi (cyS a b c g (L.take i)).2), (8, vi i)]) (fun i => [(3, .row 0 4 (bs (marks a c (cyS a b c g (L.take i)).1)))]) (fun i => i ≤ L.length) (fun i => L.length - i) 0 ?_
  intro s0 e
  simp -dsimp at e
  subst e
  refine ⟨?_, ?_⟩
  · simp [cyS, mnil]
  intro i hi
  simp -dsimp
  obtain ⟨hok, hle⟩ := cyso i
  refine ⟨fun h1 => ?_, fun h1 => ?_⟩
  · obtain ⟨⟨x, y⟩, hxy⟩ : ∃ v, L[i]? = some v := ⟨_, List.getElem?_eq_getElem h1⟩
    obtain ⟨hin, hix⟩ := cls hxy
    have hs := cyss hxy
    have hmk := mget hin (cyS a b c g (L.take i)).1
    rw [hix] at hmk
    simp -dsimp [hmk, mlen]
    refine ⟨h1, fun hm => ⟨h1, fun x' y' hxy' => ?_⟩, fun hm => ⟨i + 1, ⟨⟨?_, by rw [w64 (by omega) (by omega)]; simp⟩, ?_⟩, by omega, by omega⟩⟩
    · rw [cy1, if_neg hm] at hs
      rw [hxy] at hxy'
      cases hxy'
      refine awp_it (false :: false :: true :: true :: false :: true :: true :: true :: true :: true :: []) (fun s : List (Int × Int) × Int × Int => []) (fun s => [(3, .row 0 4 (bs (marks a c s.1))), (4, .box [vi s.2.1, vi s.2.2])]) (fun s => okSet a c s.1 ∧ inC a c s.2 ∧ wkF a b c g s.1 s.2 = wkF a b c g (cyS a b c g (L.take i)).1 (x, y)) (fun s => L.length - s.1.length) ((cyS a b c g (L.take i)).1, x, y) ?_
      intro s0 e
      simp -dsimp at e
      subst e
      refine ⟨?_, ?_⟩
      · exact ⟨by simp, hok, hin, rfl⟩
      rintro ⟨S, u, v⟩ ⟨k1, k2, k3⟩
      simp -dsimp
      obtain ⟨n1, n2⟩ := num_ix (a := a) (b := b) (c := c) k2
      have mg := mget k2 S
      have ms := mset k2 S
      simp only [ix] at n1 n2 mg ms
      obtain ⟨u1, u2⟩ := k2
      simp only at u1 u2
      have wn := s_snumber a b c u v ha hb hc (by omega) (by omega)
      rw [n1] at wn
      refine call_of (wn) rfl (by simp) ?_
      try simp -dsimp
      try (first | exact fp_one (by decide) | refine fp_and (by decide) ?_)
      simp -dsimp [mg, mlen]
      refine ⟨⟨n2.1, by omega⟩, by omega, fun hm2 => ?_, fun hm2 => ?_⟩
      · refine call_of (wn) rfl (by simp) ?_
        try simp -dsimp
        try (first | exact fp_one (by decide) | refine fp_and (by decide) ?_)
        refine ⟨⟨n2.1, by rw [mlen]; omega⟩, by rw [mlen]; omega, ?_⟩
        rw [ms]
        refine call_of (s_smove a b c g u v hg ha hb hc ⟨by omega, by omega⟩) rfl (by simp) ?_
        try simp -dsimp
        try (first | exact fp_one (by decide) | refine fp_and (by decide) ?_)
        obtain ⟨m1, m2⟩ := wmiss k1 ⟨u1, u2⟩ hm2
        simp only at m2
        refine ⟨S ++ [(u, v)], (mvV a b c g (u, v)).1, (mvV a b c g (u, v)).2, by simp, ⟨okSet_snoc k1 ⟨u1, u2⟩ hm2, inC_mv ha.1 hc.1 g _, ?_⟩, ?_⟩
        · rw [← k3]; exact m1.symm
        · simp only [List.length_append, List.length_singleton]; omega
      · have k4 : S = (cyS a b c g (L.take (i + 1))).1 := by
          rw [hs]
          simp only
          rw [← k3]
          exact (whit k1 hm2).symm
        refine ⟨i + 1, ⟨⟨?_, by rw [w64 (by omega) (by omega)]; simp⟩, by rw [k4]⟩, by omega, by omega⟩
        rw [hs, w64 (by omega) (by omega)]
        simp
    · rw [hs, cy1, if_pos hm]
    · rw [hs, cy1, if_pos hm]
  · have : i = L.length := by omega
    subst this
    simp
theorem cyc_both (f a b c : Int) (g : G6) : ∃ n k, Sp Try.prog 36 [vi f, aL a b c, aG6 g] (.tu [vi n, vi k]) [] ∧ Sp Try.prog 37 [vi f, aL a b c, aG6 g] (.tu [vi n, vi k]) [] := by
  by_cases h : 0 ≤ f ∧ f ≤ 1 ∧ okL a b c = true
  case neg =>
    refine ⟨0, 1, ?_, ?_⟩
    · refine sp_of (m := no) mixed Try.func36 k36 ?_
      have w2 := s_ssuit f a b c g.1.1 g.1.2.1 g.1.2.2.1 g.1.2.2.2 g.2.1 g.2.2
      generalize (decide (0 ≤ f ∧ f ≤ 1) && okL a b c && suit f a b c g.1.1 g.1.2.1 g.1.2.2.1 g.1.2.2.2 g.2.1 g.2.2) = T at w2
      have w1 := s_s6code f a b c T
      rw [if_neg h] at w1
      simp -dsimp [q]
      refine call_of (w2) rfl (by simp) ?_
      try simp -dsimp
      try (first | exact fp_one (by decide) | refine fp_and (by decide) ?_)
      refine call_of (w1) rfl (by simp) ?_
      try simp -dsimp
      try (first | exact fp_one (by decide) | refine fp_and (by decide) ?_)
    · refine sp_of (m := no) mixed Try.func37 k37 ?_
      have w1 := s_fcode f a b c
      rw [if_neg h] at w1
      simp -dsimp [q]
      refine call_of (w1) rfl (by simp) ?_
      try simp -dsimp
      try (first | exact fp_one (by decide) | refine fp_and (by decide) ?_)
  have hf : 0 ≤ f ∧ f ≤ 1 := ⟨h.1, h.2.1⟩
  obtain ⟨ha, hc, hb, hac⟩ := okL_spec.1 h.2.2
  have w1 := s_fcode f a b c
  rw [if_pos h] at w1
  have w2 := s_suit f a b c g.1.1 g.1.2.1 g.1.2.2.1 g.1.2.2.2 g.2.1 g.2.2 hf h.2.2
  have w4 := s_ssuit' f a b c g.1.1 g.1.2.1 g.1.2.2.1 g.1.2.2.2 g.2.1 g.2.2 (suitG f a b c g) (by rw [decide_eq_true hf, h.2.2]; rfl)
  have w3 := s_s6code f a b c (suitG f a b c g)
  rw [if_pos h] at w3
  rw [show suit f a b c g.1.1 g.1.2.1 g.1.2.2.1 g.1.2.2.2 g.2.1 g.2.2 = suitG f a b c g from rfl] at w2
  cases hg : suitG f a b c g
  · rw [hg] at w2 w3 w4
    refine ⟨0, 2, ?_, ?_⟩
    · refine sp_of (m := no) mixed Try.func36 k36 ?_
      simp -dsimp [q]
      refine call_of (w4) rfl (by simp) ?_
      try simp -dsimp
      try (first | exact fp_one (by decide) | refine fp_and (by decide) ?_)
      refine call_of (w3) rfl (by simp) ?_
      try simp -dsimp
      try (first | exact fp_one (by decide) | refine fp_and (by decide) ?_)
    · refine sp_of (m := no) mixed Try.func37 k37 ?_
      simp -dsimp [q]
      refine call_of (w1) rfl (by simp) ?_
      try simp -dsimp
      try (first | exact fp_one (by decide) | refine fp_and (by decide) ?_)
      refine call_of (w2) rfl (by simp) ?_
      try simp -dsimp
      try (first | exact fp_one (by decide) | refine fp_and (by decide) ?_)
  · rw [hg] at w2 w3 w4
    obtain ⟨hsm, _⟩ := suit_small hf hg
    refine ⟨(cyS a b c g (cl a c)).2, 0, ?_, ?_⟩
    · refine sp_of (m := no) mixed Try.func36 k36 ?_
      simp -dsimp [q]
      refine call_of (w4) rfl (by simp) ?_
      try simp -dsimp
      try (first | exact fp_one (by decide) | refine fp_and (by decide) ?_)
      refine call_of (w3) rfl (by simp) ?_
      try simp -dsimp
      try (first | exact fp_one (by decide) | refine fp_and (by decide) ?_)
      refine call_of (s_scyc a b c g hsm ha hb hc) rfl (by simp) ?_
      try simp -dsimp
      try (first | exact fp_one (by decide) | refine fp_and (by decide) ?_)
    · refine sp_of (m := no) mixed Try.func37 k37 ?_
      simp -dsimp [q]
      refine call_of (w1) rfl (by simp) ?_
      try simp -dsimp
      try (first | exact fp_one (by decide) | refine fp_and (by decide) ?_)
      refine call_of (w2) rfl (by simp) ?_
      try simp -dsimp
      try (first | exact fp_one (by decide) | refine fp_and (by decide) ?_)
      refine call_of (s_cyc a b c g hsm ha hb hc) rfl (by simp) ?_
      try simp -dsimp
      try (first | exact fp_one (by decide) | refine fp_and (by decide) ?_)
end Go.Proofs.YtihkjljafjhniaaEv
namespace Go.Proofs.YtihkjljafjhniaaEv
open Go Go.Proofs
set_option maxRecDepth 10000
set_option maxHeartbeats 1000000
theorem law_FnExactCountCycles (a0 : Int) (a1_0 : Int) (a1_1 : Int) (a1_2 : Int) (a2_0_0 : Int) (a2_0_1 : Int) (a2_0_2 : Int) (a2_0_3 : Int) (a2_1_0 : Int) (a2_1_1 : Int) (wf0 : (Lit.int .i64 a0).wf = true) (wf1 : ((Lit.int .i64 a1_0).wf = true ∧ (Lit.int .i64 a1_1).wf = true ∧ (Lit.int .i64 a1_2).wf = true)) (wf2 : (((Lit.int .i64 a2_0_0).wf = true ∧ (Lit.int .i64 a2_0_1).wf = true ∧ (Lit.int .i64 a2_0_2).wf = true ∧ (Lit.int .i64 a2_0_3).wf = true) ∧ ((Lit.int .i64 a2_1_0).wf = true ∧ (Lit.int .i64 a2_1_1).wf = true))) : Sp Try.prog 8 [.v (.int .i64 a0), .v (.ag [.int .i64 a1_0, .int .i64 a1_1, .int .i64 a1_2]), .v (.ag [.int .i64 a2_0_0, .int .i64 a2_0_1, .int .i64 a2_0_2, .int .i64 a2_0_3, .int .i64 a2_1_0, .int .i64 a2_1_1])] (.v (.bool true)) [] := by
  clear wf0 wf1 wf2
  obtain ⟨n, k, hs, hi⟩ := cyc_both a0 a1_0 a1_1 a1_2 ((a2_0_0, a2_0_1, a2_0_2, a2_0_3), a2_1_0, a2_1_1)
  have hm := s_toMo ((a2_0_0, a2_0_1, a2_0_2, a2_0_3), a2_1_0, a2_1_1)
  show Sp Try.prog 8 [vi a0, aL a1_0 a1_1 a1_2, aG a2_0_0 a2_0_1 a2_0_2 a2_0_3 a2_1_0 a2_1_1] (vb true) []
  refine sp_of (m := no) mixed Try.func8 k8 ?_
  simp -dsimp [q]
  repeat ((first | refine call_of (s_toL _ _ _) rfl (by simp) ?_ | refine call_of (hm) rfl (by simp) ?_ | refine call_of (hs) rfl (by simp) ?_ | refine call_of (hi) rfl (by simp) ?_ | exact fp_one (by decide) | refine fp_and (by decide) ?_ | refine br_l (by omega) (by omega) ?_ | refine br_r (by omega) (by omega) ?_ | refine br_p (by omega) (by omega) ?_ | refine br_q (by omega) (by omega) ?_); try simp -dsimp)
end Go.Proofs.YtihkjljafjhniaaEv
namespace Go.Proofs.YtihkjljafjhniaaEv
open Go Go.ChangeShapes Go.WideShapes Go.RowKit Go.Deep

abbrev below (W : World) : Nat → Prop := fun b => b < W.heap.size
def OpC {α : Type} (P : Program) (t : TypeId) (encs : α → List V) (wf : α → Prop) : Prop :=
  ∀ (H : Type) (enc : TypeId × Value → H) (W : World) (spare : Nat → Bool) (held : Bool) (fuel : Nat) (cs : List Value) (x : DataW H × List MemPlace),
    DataW.trod enc P W 0 spare held fuel t cs = some x → ∃ a, RepL (below W) W (encs a) cs ∧ wf a
theorem opc_int {P : Program} {t : TypeId} {k : IntKind} (hu : P.underlying t = some (.int k)) : OpC P t (fun n => [V.int k n]) (fun n => (Lit.int k n).wf = true) := by
  intro H enc W spare held fuel cs x h
  obtain ⟨n, rfl, _, hw⟩ := DataW.trod_int hu h
  exact ⟨n, ⟨_, [], rfl, rfl, rfl, rfl⟩, hw⟩
theorem opc_bool {P : Program} {t : TypeId} (hu : P.underlying t = some .bool) : OpC P t (fun b => [V.bool b]) (fun _ => True) := by
  intro H enc W spare held fuel cs x h
  obtain ⟨n, rfl, _⟩ := DataW.trod_bool hu h
  exact ⟨n, ⟨_, [], rfl, rfl, rfl, rfl⟩, trivial⟩
theorem opc_string {P : Program} {t : TypeId} (hu : P.underlying t = some .string) : OpC P t (fun s => [V.str s]) (fun s => s.size ≤ maxLen) := by
  intro H enc W spare held fuel cs x h
  obtain ⟨n, rfl, _, hs⟩ := DataW.trod_string hu h
  exact ⟨n, ⟨_, [], rfl, rfl, rfl, rfl⟩, hs⟩
theorem list_of {α : Type} {n : Nat} {p : Nat → α → Prop} (h : ∀ i, i < n → ∃ x, p i x) : ∃ l : List α, l.length = n ∧ ∀ i (hi : i < l.length), p i l[i] := by
  induction n with
  | zero => exact ⟨[], rfl, fun i hi => absurd hi (Nat.not_lt_zero _)⟩
  | succ n ih =>
    obtain ⟨l, hl, hp⟩ := ih (fun i hi => h i (Nat.lt_succ_of_lt hi))
    obtain ⟨x, hx⟩ := h n (Nat.lt_succ_self n)
    refine ⟨l ++ [x], by simp [hl], fun i hi => ?_⟩
    by_cases e : i < l.length
    · rw [List.getElem_append_left e]; exact hp i e
    · have : i = n := by simp at hi; omega
      subst this
      rw [List.getElem_append_right (by omega)]
      simpa [hl] using hx
def mkE (k : Nat) (cs : List V) : V := if k = 0 then cs.headD default else .ag cs
theorem repAt_of {S : Nat → Prop} {w : World} {Ad : Option Addr} {e : Nat} : ∀ (xs : List V) (i : Nat), (∀ j x, xs[j]? = some x → ∃ b u, Ad = some b ∧ S b.block ∧ Rep S w x u ∧ u.cells.size = cz e ∧ x.isAg = (e != 0) ∧ ∀ (k : Nat) y, u.cells[k]? = some y → w.cell? (b.add ((i + j) * cz e + k)) = some y) → RepAt S w Ad e i xs
  | [], _, _ => trivial
  | x :: xs, i, h => by
    refine ⟨by simpa using h 0 x rfl, repAt_of xs (i + 1) (fun j y hy => ?_)⟩
    obtain ⟨b, u, h1, h2, h3, h4, h5, h6⟩ := h (j + 1) y (by simpa using hy)
    exact ⟨b, u, h1, h2, h3, h4, h5, fun k z hz => by rw [show i + 1 + j = i + (j + 1) by omega]; exact h6 k z hz⟩
theorem mkE_rep {S : Nat → Prop} {w : World} {k : Nat} {ds : List V} {cs : List Value} (h : RepL S w ds cs) (hl : cs.length = cz k) : ∃ u, Rep S w (mkE k ds) u ∧ u.cells.toList = cs ∧ (mkE k ds).isAg = (k != 0) := by
  unfold mkE
  by_cases hk : k = 0
  · subst hk
    rw [if_pos rfl]
    match ds, cs, h, hl with
    | [d], [c], ⟨u, us', h1, h2, h3, h4⟩, _ =>
      cases h1
      have := h3.cellsNe h2
      exact ⟨c, h3, by rw [this.2], h2⟩
    | [], [], _, hl => cases hl
    | _ :: _ :: _, [], h, _ => obtain ⟨_, _, h1, _⟩ := h; cases h1
    | [_], [], h, _ => obtain ⟨_, _, h1, _⟩ := h; cases h1
    | [_], _ :: _ :: _, _, hl => cases hl
    | [], _ :: _, h, _ => simp [RepL] at h
    | _ :: _ :: _, [_], h, _ => obtain ⟨_, _, h1, _, _, _, _, h2, _⟩ := h; cases h1; cases h2
    | _ :: _ :: _, _ :: _ :: _, _, hl => cases hl
  · rw [if_neg hk]
    exact ⟨.agg cs.toArray, ⟨cs, rfl, h⟩, by simp [Value.cells], by simp [V.isAg, hk]⟩
theorem opc_slice {α : Type} {P : Program} {t e : TypeId} {k : Nat} {encs : α → List V} {wf : α → Prop} (hu : P.underlying t = some (.slice e)) (hk : kindOf P e = some k) (h : OpC P e encs wf) :
    OpC P t (fun l : List α => [V.sl k (l.map fun a => mkE k (encs a))]) (fun l => l.length ≤ maxLen ∧ ∀ x ∈ l, wf x) := by
  intro H enc W spare held fuel cs x hx
  have hsz : P.cellsOf e = cz k := by
    obtain ⟨_, i, _, h1, h2, _⟩ := kindOf_spec hk
    simp [Program.cellsOf, h1, h2]
  rcases open_slice hu hx with ⟨rfl, _⟩ | ⟨a, len, cap, m, n, D, Pl, rfl, _, hl, hm, hmm, _, hel⟩
  · exact ⟨[], ⟨_, [], rfl, rfl, ⟨none, 0, rfl, Nat.le_refl _, Nat.zero_le _, trivial⟩, rfl⟩, Nat.zero_le _, fun x hx => absurd hx (by simp)⟩
  · have hle : len ≤ m := by rw [hmm]; split <;> omega
    obtain ⟨l, hlen, hp⟩ := list_of (p := fun i y => ∃ cs', W.cells? 0 (a.add (i * P.cellsOf e)) (P.cellsOf e) = some cs' ∧ RepL (below W) W (encs y) cs' ∧ wf y) (n := len) (fun i hi => by
      obtain ⟨cs', h1, h2⟩ := hel i (by omega)
      obtain ⟨y, hK, hw⟩ := h H enc W spare held n cs' _ h2
      exact ⟨y, cs', h1, hK, hw⟩)
    subst hlen
    refine ⟨l, ⟨_, [], rfl, rfl, ⟨some a, cap, by simp, by simpa using hl, hm, repAt_of _ 0 (fun j x hj => ?_)⟩, rfl⟩, Nat.le_trans hl hm, fun y hy => ?_⟩
    · simp only [List.getElem?_map, Option.map_eq_some_iff] at hj
      obtain ⟨y, hj, rfl⟩ := hj
      obtain ⟨hj', rfl⟩ := List.getElem?_eq_some_iff.1 hj
      obtain ⟨cs', h1, hK, _⟩ := hp j hj'
      obtain ⟨_, hcl, hcell⟩ := World.cells?_some h1
      rw [hsz] at hcl hcell
      obtain ⟨u, h2, h3, h4⟩ := mkE_rep hK hcl
      have hus : u.cells.size = cz k := by rw [← hcl, ← h3]; simp
      have cell : ∀ (i : Nat) y, u.cells[i]? = some y → W.cell? (a.add (j * cz k + i)) = some y := by
        intro i y hy
        have hi : i < cz k := by have := (Array.getElem?_eq_some_iff.1 hy).1; omega
        have := hcell i hi
        rw [Go.Deep.add_add] at this
        rw [this, ← h3]
        simpa using hy
      refine ⟨a, u, rfl, ?_, h2, hus, h4, fun i y hy => by simpa using cell i y hy⟩
      have h0 : 0 < u.cells.size := by rw [hus]; exact cz_pos k
      have := World.block_lt_of_cell? W _ (cell 0 _ (Array.getElem?_eq_getElem h0))
      rwa [add_block] at this
    · obtain ⟨j, hj, rfl⟩ := List.mem_iff_getElem.1 hy
      obtain ⟨_, _, _, hw⟩ := hp j hj
      exact hw
theorem RepL.append {S : Nat → Prop} {w : World} : ∀ {az bs : List V} {us vs : List Value}, RepL S w az us → RepL S w bs vs → RepL S w (az ++ bs) (us ++ vs)
  | [], _, us, _, h, k => by simp only [RepL] at h; subst h; exact k
  | a :: az, _, us, vs, ⟨u, us', h1, h2, h3, h4⟩, k => by subst h1; exact ⟨u, us' ++ vs, rfl, h2, h3, h4.append k⟩
/-- The fields of a struct, from a place on. -/
def OpF {α : Type} (P : Program) (fs : List Field) (off n : Nat) (encs : α → List V) (wf : α → Prop) : Prop :=
  ∀ (H : Type) (enc : TypeId × Value → H) (W : World) (spare : Nat → Bool) (held : Bool) (fuel : Nat) (cs : List Value), cs.length = off + n →
    (∀ f ∈ fs, ∃ y, DataW.trod enc P W 0 spare held fuel f.type ((cs.drop f.offset).take (P.cellsOf f.type)) = some y) → ∃ a, RepL (below W) W (encs a) (cs.drop off) ∧ wf a
theorem opf_one {α : Type} {P : Program} {f : Field} {off n : Nat} {encs : α → List V} {wf : α → Prop} (ho : f.offset = off) (hc : P.cellsOf f.type = n) (h : OpC P f.type encs wf) : OpF P [f] off n encs wf := by
  intro H enc W spare held fuel cs hl hf
  obtain ⟨y, hy⟩ := hf f (by simp)
  rw [ho, hc, List.take_of_length_le (by rw [List.length_drop]; omega)] at hy
  exact h H enc W spare held fuel _ _ hy
theorem opf_cons {α β : Type} {P : Program} {f : Field} {fs : List Field} {off n m : Nat} {encs : α → List V} {encs1 : β → List V} {wf : α → Prop} {wf1 : β → Prop} (ho : f.offset = off) (hc : P.cellsOf f.type = n) (h : OpC P f.type encs wf) (h1 : OpF P fs (off + n) m encs1 wf1) :
    OpF P (f :: fs) off (n + m) (fun a : α × β => encs a.1 ++ encs1 a.2) (fun a => wf a.1 ∧ wf1 a.2) := by
  intro H enc W spare held fuel cs hl hf
  obtain ⟨y, hy⟩ := hf f (by simp)
  rw [ho, hc] at hy
  obtain ⟨a, hK, hw⟩ := h H enc W spare held fuel _ _ hy
  obtain ⟨b, hK1, hw1⟩ := h1 H enc W spare held fuel cs (by omega) (fun g hg => hf g (by simp [hg]))
  refine ⟨(a, b), ?_, hw, hw1⟩
  have := hK.append hK1
  rwa [← List.drop_drop, List.take_append_drop] at this
theorem opc_struct {α : Type} {P : Program} {t : TypeId} {fs : Array Field} {n : Nat} {encs : α → List V} {wf : α → Prop} (hu : P.underlying t = some (.struct fs)) (hc : P.cellsOf t = n) (h : OpF P fs.toList 0 n encs wf) : OpC P t encs wf := by
  intro H enc W spare held fuel cs x hx
  obtain ⟨xs, m, _, _, hl, hlen, hf⟩ := DataW.trod_struct hu hx
  have := h H enc W spare held m cs (by omega) (fun f hf' => by
    obtain ⟨i, hi, rfl⟩ := List.mem_iff_getElem.1 hf'
    have h2 := hf i fs.toList[i] (by simp at hi ⊢)
    rw [List.getElem?_eq_getElem (by simp at hi; omega)] at h2
    exact ⟨_, h2⟩)
  simpa using this
theorem agg_of {P : Program} {W : World} {r : Reach} {base : Nat} {t : TypeId} {fs : Array Field} {v : Value} (hu : P.underlying t = some (.struct fs)) (hv : Value.okWide P W r base t v) : ∃ cs : Array Value, v = .agg cs := by
  obtain ⟨cs, rfl, _⟩ := okWide_struct hu hv
  exact ⟨cs, rfl⟩
/-- A law's call comes back with true, and what was there is there. -/
theorem law_calls {P : Program} {f : Nat} {az : List A} (h : Sp P f az (.v (.bool true)) []) (W : World) (us : List Value) (hus : ARs (fun _ => none) (fun _ => (0, 0)) (below W) W az us) :
    Calls P f us.toArray W fun e w' => e = .returned (.bool true) ∧ Below W.heap.size W w' := by
  have R0 : Rl W (fun _ => False) (below W) (fun i => ([] : List Ck)[i]?) (fun _ => (0, 0)) (below W) W :=
    ⟨rfl, rfl, rfl, Nat.le_refl _, fun _ _ _ => rfl, fun _ h => h, fun _ h => .inl h, fun _ h => h, fun i => trivial, fun i c hc => (by cases hc), fun i j c d hc => (by cases hc)⟩
  refine (h.2 (below W) W us (fun _ => False) (fun _ => (0, 0)) R0 hus).mono ?_
  rintro e w' ⟨u, S', μ', rfl, R, _, hu⟩
  have : u = .bool true := hu
  exact ⟨by rw [this], R.os, R.tape, R.output, R.size, fun k hk => R.keep k hk (fun h => h)⟩
theorem ar_agg {S : Nat → Prop} {w : World} {ds : List V} {cs : Array Value} (h : RepL S w ds cs.toList) : AR (fun _ => none) (fun _ => (0, 0)) S w (.v (.ag ds)) (.agg cs) := ⟨cs.toList, by simp, h⟩
theorem ar_one {S : Nat → Prop} {w : World} {d : V} {v : Value} (h : RepL S w [d] [v]) : AR (fun _ => none) (fun _ => (0, 0)) S w (.v d) v := by
  obtain ⟨u, us', h1, h2, h3, h4⟩ := h
  cases h1
  exact h3
end Go.Proofs.YtihkjljafjhniaaEv
