/- What the code computes, and what it means: part 3 of the proof of FnMasks. No condition of its own. -/
import Derived.Test.YtgkhakhkebjbpaaCFnMasks2
namespace Go.Proofs.YtgkhakhkebjbpaaEv
open Go Go.Proofs
theorem rowL_get (x : Int) : ∀ (n k : Nat), k < n → (rowL x n)[k]? = some (x, (k : Int))
  | n + 1, k, h => by
    simp only [rowL]
    by_cases e : k < n
    · rw [List.getElem?_append_left (by rw [rowL_len]; exact e)]; exact rowL_get x n k e
    · have : k = n := by omega
      subst this
      rw [List.getElem?_append_right (by rw [rowL_len]; omega), rowL_len]
      simp
theorem cellsL_get (c : Nat) (hc : 0 < c) : ∀ (n k : Nat), k < n * c → (cellsL c n)[k]? = some (((k / c : Nat) : Int), ((k % c : Nat) : Int))
  | 0, k, h => by simp at h
  | n + 1, k, h => by
    simp only [cellsL]
    by_cases e : k < n * c
    · rw [List.getElem?_append_left (by rw [cellsL_len]; exact e)]; exact cellsL_get c hc n k e
    · rw [List.getElem?_append_right (by rw [cellsL_len]; omega), cellsL_len]
      rw [Nat.succ_mul] at h
      rw [rowL_get _ _ _ (by omega)]
      have h1 : k / c = n := by
        rw [Nat.div_eq_iff hc]
        refine ⟨by omega, by omega⟩
      have h2 : k % c = k - n * c := by
        have := Nat.div_add_mod k c
        rw [h1, Nat.mul_comm] at this
        omega
      rw [h1, h2]
theorem num_cell {a b c : Int} (hc : 0 < c) {k : Nat} (hk : (k : Int) < a * c) : num a b c ((k / c.toNat : Nat) : Int) ((k % c.toNat : Nat) : Int) = k := by
  obtain ⟨n, rfl⟩ : ∃ n : Nat, c = n := ⟨c.toNat, by omega⟩
  have hn : 0 < n := by omega
  have h1 := Nat.mod_lt k hn
  have h2 := Nat.div_add_mod k n
  have h3 : ((k % n : Nat) : Int) / (n : Int) = 0 := Int.ediv_eq_zero_of_lt (by omega) (by omega)
  have h4 : ((k % n : Nat) : Int) % (n : Int) = (k % n : Nat) := Int.emod_eq_of_lt (by omega) (by omega)
  have h5 : ((k / n : Nat) : Int) < a := by
    rcases Int.lt_or_le ((k / n : Nat) : Int) a with h | h
    · exact h
    · exfalso
      have h6 := Int.mul_le_mul_of_nonneg_right h (show (0 : Int) ≤ n by omega)
      have h7 : ((k / n : Nat) : Int) * (n : Int) = ((n * (k / n) : Nat) : Int) := by rw [Int.mul_comm]; simp
      omega
  simp only [num, redX, Int.toNat_natCast, h3, h4, Int.zero_mul, Int.sub_zero]
  rw [Int.emod_eq_of_lt (Int.natCast_nonneg _) h5]
  have h7 : ((k / n : Nat) : Int) * (n : Int) = ((n * (k / n) : Nat) : Int) := by rw [Int.mul_comm]; simp
  omega
theorem num_range {a b c x y : Int} (ha : 0 < a) (hc : 0 < c) : 0 ≤ num a b c x y ∧ num a b c x y < a * c := by
  have h := red_lt (a := a) (b := b) (c := c) (x := x) (y := y) ha hc
  exact (num_lt' h.1 h.2).2
theorem cell_num {a b c x y : Int} (ha : 0 < a) (hc : 0 < c) : (((num a b c x y).toNat / c.toNat : Nat) : Int) = redX a b c x y ∧ (((num a b c x y).toNat % c.toNat : Nat) : Int) = y % c := by
  have h := red_lt (a := a) (b := b) (c := c) (x := x) (y := y) ha hc
  have h1 := (num_lt' h.1 h.2).2
  have h2 : ((num a b c x y).toNat : Int) = num a b c x y := Int.toNat_of_nonneg h1.1
  have h3 : ((c.toNat : Nat) : Int) = c := Int.toNat_of_nonneg (by omega)
  constructor
  · rw [Int.natCast_ediv, h2, h3]
    unfold num
    rw [Int.add_comm, Int.add_mul_ediv_right _ _ (by omega), Int.ediv_eq_zero_of_lt h.2.1 h.2.2, Int.zero_add]
  · rw [Int.natCast_emod, h2, h3]
    unfold num
    rw [Int.add_comm, Int.add_mul_emod_self_right, Int.emod_eq_of_lt h.2.1 h.2.2]
theorem num_add {a b c x y u v : Int} (hc : 0 < c) : num a b c (redX a b c x y + u) (y % c + v) = num a b c (x + u) (y + v) := by
  have h1 : (y + v) % c = (y % c + v) % c := by rw [Int.emod_add_emod]
  have h2 : (y + v) / c = y / c + (y % c + v) / c := by
    have h3 := Int.mul_ediv_add_emod y c
    rw [show y + v = (y % c + v) + c * (y / c) by omega, Int.add_mul_ediv_left _ _ (by omega)]
    omega
  have h4 : redX a b c (redX a b c x y + u) (y % c + v) = redX a b c (x + u) (y + v) := by
    unfold redX
    rw [h2, Int.add_mul]
    rw [show (x - y / c * b) % a + u - (y % c + v) / c * b = (x - y / c * b) % a + (u - (y % c + v) / c * b) by omega, Int.emod_add_emod]
    congr 1
    omega
  unfold num
  rw [h4, h1]
theorem num_shift {a b c x y u v : Int} (ha : 0 < a) (hc : 0 < c) : num a b c ((((num a b c x y).toNat / c.toNat : Nat) : Int) + u) ((((num a b c x y).toNat % c.toNat : Nat) : Int) + v) = num a b c (x + u) (y + v) := by
  obtain ⟨h1, h2⟩ := cell_num (b := b) (x := x) (y := y) ha hc
  rw [h1, h2, num_add hc]
theorem num_back {a b c u v : Int} (ha : 0 < a) (hc : 0 < c) {k : Nat} (hk : (k : Int) < a * c) : num a b c ((((num a b c ((k / c.toNat : Nat) + u) ((k % c.toNat : Nat) + v)).toNat / c.toNat : Nat) : Int) + -u) ((((num a b c ((k / c.toNat : Nat) + u) ((k % c.toNat : Nat) + v)).toNat % c.toNat : Nat) : Int) + -v) = k := by
  rw [num_shift ha hc]
  rw [show ((k / c.toNat : Nat) : Int) + u + -u = ((k / c.toNat : Nat) : Int) by omega, show ((k % c.toNat : Nat) : Int) + v + -v = ((k % c.toNat : Nat) : Int) by omega]
  exact num_cell hc hk
/-! entries set one behind the other -/
def setN (p : Nat → Bool) (ix : Nat → Nat) (val : Nat → Int) (l : List Int) : Nat → List Int
  | 0 => l
  | n + 1 => if p n = true then (setN p ix val l n).set (ix n) (val n) else setN p ix val l n
theorem setN_len (p : Nat → Bool) (ix : Nat → Nat) (val : Nat → Int) (l : List Int) : ∀ n, (setN p ix val l n).length = l.length
  | 0 => rfl
  | n + 1 => by simp only [setN]; split <;> simp [setN_len p ix val l n]
theorem setN_get {p : Nat → Bool} {ix : Nat → Nat} {val : Nat → Int} {l : List Int} {m j i : Nat} (hj : j < l.length) (hi : i < m) (hix : ∀ k, k < m → (ix k = j ↔ k = i)) : ∀ n, n ≤ m → (setN p ix val l n)[j]? = if i < n ∧ p i = true then some (val i) else l[j]?
  | 0, _ => by simp [setN]
  | n + 1, hn => by
    have ih := setN_get (p := p) (val := val) hj hi hix n (by omega)
    simp only [setN]
    by_cases hp : p n = true
    · rw [if_pos hp]
      by_cases e : ix n = j
      · have := (hix n (by omega)).1 e
        subst this
        rw [e, List.getElem?_set_self (by rw [setN_len]; exact hj), if_pos ⟨by omega, hp⟩]
      · rw [List.getElem?_set_ne e, ih]
        have : n ≠ i := fun h => e ((hix n (by omega)).2 h)
        by_cases h2 : i < n ∧ p i = true
        · rw [if_pos h2, if_pos ⟨by omega, h2.2⟩]
        · rw [if_neg h2, if_neg (fun h => h2 ⟨by omega, h.2⟩)]
    · rw [if_neg hp, ih]
      by_cases h2 : i < n ∧ p i = true
      · rw [if_pos h2, if_pos ⟨by omega, h2.2⟩]
      · rw [if_neg h2, if_neg (fun h => by
          have : i ≠ n := fun e => hp (e ▸ h.2)
          exact h2 ⟨by omega, h.2⟩)]
def mv (a b c u v : Int) (k : Nat) : Nat := (num a b c ((k / c.toNat : Nat) + u) ((k % c.toNat : Nat) + v)).toNat
theorem mv_lt {a b c u v : Int} (ha : 0 < a) (hc : 0 < c) (k : Nat) : mv a b c u v k < (a * c).toNat := by
  have := num_range (b := b) (x := (k / c.toNat : Nat) + u) (y := (k % c.toNat : Nat) + v) ha hc
  unfold mv
  omega
theorem mv_iff {a b c u v : Int} (ha : 0 < a) (hc : 0 < c) {k j : Nat} (hk : (k : Int) < a * c) (hj : (j : Int) < a * c) : mv a b c u v k = j ↔ k = mv a b c (-u) (-v) j := by
  constructor
  · rintro rfl
    have := num_back (b := b) (u := u) (v := v) ha hc hk
    unfold mv
    omega
  · rintro rfl
    have := num_back (b := b) (u := -u) (v := -v) ha hc hj
    rw [Int.neg_neg, Int.neg_neg] at this
    unfold mv
    omega
theorem cell_of {a c x y : Int} {i : Nat} (ha : 1 ≤ a) (hc : 1 ≤ c) (h : (cellsL c.toNat a.toNat)[i]? = some (x, y)) : ((0 ≤ x ∧ x < a) ∧ 0 ≤ y ∧ y < c) ∧ (∀ b u v, mv a b c u v i = (num a b c (x + u) (y + v)).toNat) ∧ x * c + y = i := by
  have hi : i < a.toNat * c.toNat := by
    have := (List.getElem?_eq_some_iff.1 h).1
    rwa [cellsL_len] at this
  rw [cellsL_get _ (by omega) _ _ hi] at h
  simp only [Option.some.injEq, Prod.mk.injEq] at h
  obtain ⟨rfl, rfl⟩ := h
  have h1 := Nat.mod_lt i (show 0 < c.toNat by omega)
  have h2 : i / c.toNat < a.toNat := Nat.div_lt_of_lt_mul (by rw [Nat.mul_comm]; exact hi)
  refine ⟨⟨⟨Int.natCast_nonneg _, by omega⟩, Int.natCast_nonneg _, by omega⟩, fun b u v => rfl, ?_⟩
  have h3 := Nat.div_add_mod i c.toNat
  have h4 : ((i / c.toNat : Nat) : Int) * c = ((c.toNat * (i / c.toNat) : Nat) : Int) := by rw [Int.natCast_mul, Int.toNat_of_nonneg (by omega), Int.mul_comm]
  omega
theorem nat_n {a c : Int} (ha : 1 ≤ a) (hc : 1 ≤ c) {n : Nat} (h : (n : Int) = a * c) : a.toNat * c.toNat = n := by
  have h2 : ((a.toNat * c.toNat : Nat) : Int) = a * c := by rw [Int.natCast_mul, Int.toNat_of_nonneg (by omega), Int.toNat_of_nonneg (by omega)]
  omega
end Go.Proofs.YtgkhakhkebjbpaaEv
namespace Go.Proofs.YtgkhakhkebjbpaaEv
open Go Go.Proofs
set_option maxRecDepth 10000
theorem toArgs_shut {h : List Ck} : ∀ {cs : List A}, cs.all A.shut = true → toArgs h cs = some (cs, [])
  | [], _ => rfl
  | c :: cs, hc => by
    simp only [List.all_cons, Bool.and_eq_true] at hc
    have := toArgs_shut (h := h) hc.2
    cases c <;> first | (simp [toArgs, toArg, toArg1, this]; done) | (have := hc.1; cases this)
theorem s_nw (n lo hi : Int) : Sp Try.prog 49 [vi n, .fq [.int .i64 lo], .fq [.int .i64 hi]] (vb (!decide (lo ≤ n ∧ n ≤ hi))) [] := by
  refine sp_of (m := no) mixed Try.func49 k49 ?_
  simp -dsimp [q]
  exact call_of (s_within n lo hi) rfl (by simp) (by simp -dsimp)
theorem s_fi (l : List Int) (f : Nat) (cs : List A) (p : Int → Bool) (h : l.length ≤ 1048576) (hc : cs.all A.shut = true) (hf : ∀ n ∈ l, Sp Try.prog f (vi n :: cs) (vb (p n)) []) : Sp Try.prog 65 [.v (vis l), .fn f cs] (vi (if l.any p = true then l.findIdx p else -1)) [] := by
  refine sp_of (m := no) mixed Try.func65 k65 ?_
  simp -dsimp [q]
  refine awp_it (true :: true :: false :: false :: false :: false :: false :: true :: true :: []) (fun i : Nat => [(8, vi i)]) (fun i => []) (fun i => i ≤ l.length ∧ (l.take i).any p = false) (fun i => l.length - i) 0 ?_
  intro s0 e
  simp -dsimp [hc] at e
  subst e
  refine ⟨?_, ?_⟩
  · simp [hc]
  intro i hi
  simp -dsimp [hc]
  refine ⟨fun h1 => ⟨h1, fun a ha => call_of (rd := []) (hf a (List.mem_of_getElem? ha)) (by simp [toArgs_shut hc]) (by simp) ?_⟩, fun h1 => ?_⟩
  · simp -dsimp [hc]
    have hi2 : ∀ x ∈ l.take i, p x = false := fun x hx => by
      have := List.any_eq_false.1 hi.2 x hx
      simpa using this
    obtain ⟨_, hal⟩ := List.getElem?_eq_some_iff.1 ha
    refine ⟨fun hp => ?_, fun hp => ⟨i + 1, by rw [w64 (by omega) (by omega)]; simp, ⟨by omega, fun x hx => ?_⟩, by omega⟩⟩
    · rw [if_pos ⟨a, List.mem_of_getElem? ha, hp⟩, (List.findIdx_eq h1).2 ⟨by rw [hal]; exact hp, fun j hj => hi2 _ (List.mem_iff_getElem.2 ⟨j, by simp; omega, by simp⟩)⟩]
    · rw [List.take_add_one, ha] at hx
      rcases List.mem_append.1 hx with hx | hx
      · exact hi2 x hx
      · simp at hx; rw [hx]; exact hp
  · have := hi.2
    rw [List.take_of_length_le h1] at this
    intro x hx
    simpa using List.any_eq_false.1 this x hx
theorem s_has (l : List Int) (f : Nat) (cs : List A) (p : Int → Bool) (h : l.length ≤ 1048576) (hc : cs.all A.shut = true) (hf : ∀ n ∈ l, Sp Try.prog f (vi n :: cs) (vb (p n)) []) : Sp Try.prog 48 [.v (vis l), .fn f cs] (vb (l.any p)) [] := by
  refine sp_of (m := no) mixed Try.func48 k48 ?_
  simp -dsimp [q]
  refine call_of (rd := []) (s_fi l f cs p h hc hf) (by simp [hc]) (by simp) ?_
  simp -dsimp
  by_cases hp : l.any p = true
  · rw [hp, if_pos (by simpa using hp)]
    simp
  · rw [if_neg (by simpa using hp)]
    simp at hp
    simpa using hp
theorem s_all (l : List Int) (lo hi : Int) (h : l.length ≤ 1048576) : Sp Try.prog 29 [.v (vis l), vi lo, vi hi] (vb (l.all fun n => decide (lo ≤ n ∧ n ≤ hi))) [] := by
  refine sp_of (m := no) mixed Try.func29 k29 ?_
  simp -dsimp [q]
  refine call_of (rd := []) (s_has l _ _ _ h rfl fun n _ => s_nw n lo hi) rfl (by simp) ?_
  simp -dsimp
  induction l with
  | nil => rfl
  | cons x l ih => simp [ih (by simp at h; omega)]
theorem s_sall (l : List Int) (n lo hi : Int) (h : l.length ≤ 1048576) : Sp Try.prog 32 [.v (vis l), vi n, vi lo, vi hi] (vb ((l.all fun n => decide (lo ≤ n ∧ n ≤ hi)) && decide ((l.length : Int) ≤ n))) [] := by
  refine sp_of (m := no) mixed Try.func32 k32 ?_
  simp -dsimp [q]
  refine awp_it (true :: true :: true :: true :: false :: false :: false :: false :: false :: true :: []) (fun i : Nat => [(9, vi i)]) (fun i => []) (fun i => i ≤ l.length ∧ ∀ x ∈ l.take i, lo ≤ x ∧ x ≤ hi) (fun i => l.length - i) 0 ?_
  intro s0 e
  simp -dsimp at e
  subst e
  refine ⟨?_, ?_⟩
  · simp
  intro i hk
  simp -dsimp
  refine ⟨fun h1 => ⟨h1, fun a ha => call_of (rd := []) (s_in a lo hi) (by simp) (by simp) ?_⟩, fun h1 => ?_⟩
  · generalize hb : decide (lo ≤ a ∧ a ≤ hi) = b
    cases b
    · simp -dsimp
      have hn := of_decide_eq_false hb
      intro hall
      exact absurd (hall a (List.mem_of_getElem? ha)) hn
    · simp -dsimp
      have hn := of_decide_eq_true hb
      refine ⟨i + 1, by rw [w64 (by omega) (by omega)]; simp, ⟨by omega, fun x hx => ?_⟩, by omega⟩
      rw [List.take_add_one, ha] at hx
      rcases List.mem_append.1 hx with hx | hx
      · exact hk.2 x hx
      · simp at hx; rw [hx]; exact hn
  · have h2 := hk.2
    rw [List.take_of_length_le h1] at h2
    exact fun _ => h2
end Go.Proofs.YtgkhakhkebjbpaaEv
namespace Go.Proofs.YtgkhakhkebjbpaaEv
open Go Go.Proofs
set_option maxRecDepth 10000
abbrev aP (f a b c : Int) (l : List Int) : A := .v (.ag [.int .i64 f, .int .i64 a, .int .i64 b, .int .i64 c, vis l])
abbrev oP (f a b c : Int) (i : Nat) : A := .ag [vi f, vi a, vi b, vi c, .sli i]
def okP (f a b c : Int) (l : List Int) : Bool := decide (0 ≤ f ∧ f ≤ 1) && okL a b c && decide ((l.length : Int) = a * c) && l.all fun n => decide (0 ≤ n ∧ n ≤ 9)
theorem okP_spec {f a b c : Int} {l : List Int} : okP f a b c l = true ↔ (0 ≤ f ∧ f ≤ 1) ∧ okL a b c = true ∧ (l.length : Int) = a * c ∧ ∀ n ∈ l, 0 ≤ n ∧ n ≤ 9 := by
  simp [okP, and_assoc]
theorem s_isFr (f : Int) : Sp Try.prog 45 [vi f] (vb (decide (0 ≤ f ∧ f ≤ 1))) [] := by
  refine sp_of (m := no) mixed Try.func45 k45 ?_
  simp -dsimp [q]
  refine call_of (s_within _ _ _) rfl (by simp) ?_
  try simp -dsimp
  try (first | exact fp_one (by decide) | refine fp_and (by decide) ?_)
theorem s_sisFr (f : Int) : Sp Try.prog 66 [vi f] (vb (decide (0 ≤ f ∧ f ≤ 1))) [] := by
  refine sp_of (m := no) mixed Try.func66 k66 ?_
  simp -dsimp [q]
  by_cases h : f = 0
  · subst h; simp
  · by_cases h1 : f = 1
    · subst h1; simp
    · simp [h, h1]
      intro h2; omega
theorem s_isP (f a b c : Int) (l : List Int) (hl : l.length ≤ 1048576) : Sp Try.prog 21 [aP f a b c l] (vb (okP f a b c l)) [] := by
  refine sp_of (m := no) mixed Try.func21 k21 ?_
  have w1 := s_isFr f
  have w2 := s_isL a b c
  have w4 := s_all l 0 9 hl
  simp -dsimp [q]
  by_cases h1 : 0 ≤ f ∧ f ≤ 1
  case neg =>
    rw [decide_eq_false h1] at w1
    refine call_of (w1) rfl (by simp) ?_
    try simp -dsimp
    try (first | exact fp_one (by decide) | refine fp_and (by decide) ?_)
    simp only [okP, decide_eq_false h1, Bool.false_and]
  rw [decide_eq_true h1] at w1
  refine call_of (w1) rfl (by simp) ?_
  try simp -dsimp
  try (first | exact fp_one (by decide) | refine fp_and (by decide) ?_)
  by_cases h2 : okL a b c = true
  case neg =>
    simp only [Bool.not_eq_true] at h2
    rw [h2] at w2
    refine call_of (w2) rfl (by simp) ?_
    try simp -dsimp
    try (first | exact fp_one (by decide) | refine fp_and (by decide) ?_)
    simp only [okP, h2, Bool.and_false, Bool.false_and]
  rw [h2] at w2
  refine call_of (w2) rfl (by simp) ?_
  try simp -dsimp
  try (first | exact fp_one (by decide) | refine fp_and (by decide) ?_)
  obtain ⟨ha, hc, _⟩ := okL_spec.1 h2
  refine call_of (s_index a b c ha hc) rfl (by simp) ?_
  try simp -dsimp
  try (first | exact fp_one (by decide) | refine fp_and (by decide) ?_)
  refine ⟨fun e => ?_, fun e => by simp only [okP, decide_eq_false e, Bool.and_false, Bool.false_and]⟩
  refine call_of (w4) rfl (by simp) ?_
  try simp -dsimp
  try (first | exact fp_one (by decide) | refine fp_and (by decide) ?_)
  simp only [okP, decide_eq_true h1, h2, decide_eq_true e, Bool.true_and, Bool.decide_and]
theorem s_scode (f a b c : Int) : Sp Try.prog 51 [vi f, aL a b c] (vi (if 0 ≤ f ∧ f ≤ 1 ∧ okL a b c = true then 0 else 1)) [] := by
  refine sp_of (m := no) mixed Try.func51 k51 ?_
  have w1 := s_sisFr f
  have w2 := s_sisL a b c
  simp -dsimp [q]
  by_cases h1 : 0 ≤ f ∧ f ≤ 1
  case neg =>
    rw [decide_eq_false h1] at w1
    rw [if_neg (fun h => h1 ⟨h.1, h.2.1⟩)]
    refine call_of (w1) rfl (by simp) ?_
    try simp -dsimp
    try (first | exact fp_one (by decide) | refine fp_and (by decide) ?_)
  rw [decide_eq_true h1] at w1
  refine call_of (w1) rfl (by simp) ?_
  try simp -dsimp
  try (first | exact fp_one (by decide) | refine fp_and (by decide) ?_)
  refine call_of (w2) rfl (by simp) ?_
  try simp -dsimp
  try (first | exact fp_one (by decide) | refine fp_and (by decide) ?_)
  by_cases h2 : okL a b c = true
  · simp [h1, h2]
  · simp [h2]
theorem s_sisP (f a b c : Int) (l : List Int) (hl : l.length ≤ 1048576) : Sp Try.prog 31 [aP f a b c l] (vb (okP f a b c l)) [] := by
  refine sp_of (m := no) mixed Try.func31 k31 ?_
  have w1 := s_scode f a b c
  have w4 := s_sall l 64 0 9 hl
  simp -dsimp [q]
  by_cases h1 : 0 ≤ f ∧ f ≤ 1 ∧ okL a b c = true
  case neg =>
    rw [if_neg h1] at w1
    refine call_of (w1) rfl (by simp) ?_
    try simp -dsimp
    try (first | exact fp_one (by decide) | refine fp_and (by decide) ?_)
    have : (decide (0 ≤ f ∧ f ≤ 1) && okL a b c) = false := by
      rw [Bool.eq_false_iff]; intro h; simp only [Bool.and_eq_true, decide_eq_true_eq] at h; exact h1 ⟨h.1.1, h.1.2, h.2⟩
    simp only [okP, this, Bool.false_and]
  rw [if_pos h1] at w1
  refine call_of (w1) rfl (by simp) ?_
  try simp -dsimp
  try (first | exact fp_one (by decide) | refine fp_and (by decide) ?_)
  obtain ⟨ha, hc, _, hac⟩ := okL_spec.1 h1.2.2
  have h4 := ac_pos ha.1 hc.1
  rw [w64 (by omega) (by omega)]
  refine ⟨fun e => ?_, fun e => by simp only [okP, decide_eq_false e, Bool.and_false, Bool.false_and]⟩
  refine call_of (w4) rfl (by simp) ?_
  try simp -dsimp
  try (first | exact fp_one (by decide) | refine fp_and (by decide) ?_)
  simp only [okP, decide_eq_true (show 0 ≤ f ∧ f ≤ 1 from ⟨h1.1, h1.2.1⟩), h1.2.2, decide_eq_true e, Bool.true_and, decide_eq_true (show (l.length : Int) ≤ 64 by omega), Bool.and_true, Bool.decide_and]
theorem s_at (f a b c x y : Int) (l : List Int) (hf : okP f a b c l = true) (hx : -1000000000 ≤ x ∧ x ≤ 1000000000) (hy : -1000000000 ≤ y ∧ y ≤ 1000000000) : Sp Try.prog 36 [aP f a b c l, aV x y] (vi (l.getD (num a b c x y).toNat 0)) [] := by
  refine sp_of (m := no) mixed Try.func36 k36 ?_
  obtain ⟨_, h2, h3, _⟩ := okP_spec.1 hf
  obtain ⟨ha, hc, hb, hac⟩ := okL_spec.1 h2
  have h0 := red_lt (b := b) (x := x) (y := y) ha.1 hc.1
  have h := num_lt' h0.1 h0.2
  simp -dsimp [q]
  refine call_of (s_reduce _ _ _ _ _ ha hb hc hx hy) rfl (by simp) ?_
  try simp -dsimp
  try (first | exact fp_one (by decide) | refine fp_and (by decide) ?_)
  refine call_of (s_number _ _ _ _ _ hc (by omega) h0.2) rfl (by simp) ?_
  try simp -dsimp
  try (first | exact fp_one (by decide) | refine fp_and (by decide) ?_)
  refine ⟨⟨by omega, by omega⟩, fun z hz => ?_⟩
  simp [num, hz]
end Go.Proofs.YtgkhakhkebjbpaaEv
namespace Go.Proofs.YtgkhakhkebjbpaaEv
open Go Go.Proofs
set_option maxRecDepth 10000
theorem s_own (l : List Int) (hl : l.length ≤ 1048576) : Sp Try.prog 38 [.v (vis l)] (.sli 0) [.row 0 2 (is l)] := by
  refine sp_of (m := no) mixed Try.func38 k38 ?_
  simp -dsimp [q]
  exact ⟨by omega, by omega⟩
theorem is_ne (l : List Int) (h : l ≠ []) : is l ≠ [] := by simpa [is] using h
theorem s_clone (l : List Int) (hl : l.length ≤ 1048576) (h0 : l ≠ []) : Sp Try.prog 50 [.v (vis l)] (.sli 0) [.row 0 2 (is l)] := by
  refine sp_of (m := no) mixed Try.func50 k50 ?_
  simp -dsimp [q]
  exact ⟨is_ne l h0, by omega, by omega⟩
def maskL (l : List Int) (ink : Int) : List Int := l.map fun x => if x = ink then 1 else 0
theorem maskL_len (l : List Int) (ink : Int) : (maskL l ink).length = l.length := by simp [maskL]
theorem maskL_take {l : List Int} {ink z : Int} {n : Nat} (h : l[n]? = some z) : (maskL l ink).take (n + 1) = (maskL l ink).take n ++ [if z = ink then 1 else 0] := by
  rw [List.take_add_one]
  simp [maskL, h]
theorem s_mask (f a b c : Int) (l : List Int) (ink : Int) (hl : l.length ≤ 1048576) (h0 : l ≠ []) : Sp Try.prog 23 [aP f a b c l, vi ink] (aP f a b c (maskL l ink)) [] := by
  refine sp_of (m := no) mixed Try.func23 k23 ?_
  simp -dsimp [q]
  refine awp_it (false :: true :: false :: false :: true :: true :: false :: false :: false :: false :: false :: false :: false :: false :: false :: true :: true :: true :: []) (fun i : Nat => [(17, vi i)]) (fun i => match i with | 0 => [] | i + 1 => [(1, .box [vi f, vi a, vi b, vi c, .sli 2]), (2, .row 0 2 (is ((maskL l ink).take (i + 1))))]) (fun i => i ≤ l.length) (fun i => l.length - i) 0 ?_
  intro s0 e
  simp -dsimp at e
  subst e
  refine ⟨?_, ?_⟩
  · simp
  intro i hi
  cases i with
  | zero =>
    simp -dsimp
    refine ⟨fun h1 => ⟨h1, fun z hz => ?_⟩, fun h1 => absurd h1 h0⟩
    have ht := maskL_take (ink := ink) hz
    simp at ht
    constructor
    · intro e
      rw [if_pos e] at ht
      exact ⟨1, by rw [w64 (by omega) (by omega)]; simp [ht], by omega, by omega⟩
    · intro e
      rw [if_neg e] at ht
      exact ⟨1, by rw [w64 (by omega) (by omega)]; simp [ht], by omega, by omega⟩
  | succ i =>
    simp -dsimp [maskL_len]
    refine ⟨fun h1 => ⟨⟨by omega, h1⟩, fun z hz => ?_⟩, fun h1 => ?_⟩
    · have ht := maskL_take (ink := ink) hz
      constructor
      · intro e
        rw [if_pos e] at ht
        refine ⟨⟨by omega, by omega⟩, i + 2, ⟨by rw [w64 (by omega) (by omega)]; simp; omega, ?_⟩, by omega, by omega⟩
        simp [ht]
      · intro e
        rw [if_neg e] at ht
        refine ⟨⟨by omega, by omega⟩, i + 2, ⟨by rw [w64 (by omega) (by omega)]; simp; omega, ?_⟩, by omega, by omega⟩
        simp [ht]
    · rw [List.take_of_length_le (by rw [maskL_len]; omega)]
theorem s_smask (f a b c : Int) (l : List Int) (ink : Int) (hl : l.length ≤ 1048576) : Sp Try.prog 26 [aP f a b c l, vi ink] (aP f a b c (maskL l ink)) [] := by
  refine sp_of (m := no) mixed Try.func26 k26 ?_
  simp -dsimp [q]
  refine awp_it (false :: true :: true :: false :: true :: true :: true :: []) (fun i : Nat => [(6, vi i)]) (fun i => [(3, .row 0 2 (is ((maskL l ink).take i)))]) (fun i => i ≤ l.length) (fun i => l.length - i) 0 ?_
  intro s0 e
  simp -dsimp at e
  subst e
  refine ⟨?_, ?_⟩
  · simp
  intro i hi
  simp -dsimp [maskL_len]
  refine ⟨fun h1 => ⟨h1, fun z hz => ?_⟩, fun h1 => ?_⟩
  · have ht := maskL_take (ink := ink) hz
    constructor
    · intro e
      rw [if_pos e] at ht
      refine ⟨⟨by omega, by omega⟩, i + 1, ⟨by rw [w64 (by omega) (by omega)]; simp, ?_⟩, by omega, by omega⟩
      simp [ht]
    · intro e
      rw [if_neg e] at ht
      refine ⟨⟨by omega, by omega⟩, i + 1, ⟨by rw [w64 (by omega) (by omega)]; simp, ?_⟩, by omega, by omega⟩
      simp [ht]
  · rw [List.take_of_length_le (by rw [maskL_len]; omega)]
abbrev ovI (p m : List Int) (ink : Int) (n : Nat) : List Int := setN (fun k => decide (m.getD k 0 = 1)) (fun k => k) (fun _ => ink) p n
theorem s_overprint (f a b c : Int) (p : List Int) (f' a' b' c' : Int) (m : List Int) (ink : Int) (hp : p.length ≤ 1048576) (h0 : p ≠ []) (hm : m.length = p.length) : Sp Try.prog 30 [aP f a b c p, aP f' a' b' c' m, vi ink] (oP f a b c 0) [.row 0 2 (is (ovI p m ink p.length))] := by
  refine sp_of (m := no) mixed Try.func30 k30 ?_
  simp -dsimp [q]
  refine call_of (s_clone p hp h0) rfl (by simp) ?_
  try simp -dsimp
  try (first | exact fp_one (by decide) | refine fp_and (by decide) ?_)
  refine awp_it (false :: false :: true :: false :: false :: false :: true :: true :: false :: false :: false :: false :: false :: false :: false :: false :: false :: false :: false :: true :: true :: true :: []) (fun i : Nat => [(21, vi i)]) (fun i => [(2, .row 0 2 (is (ovI p m ink i)))]) (fun i => i ≤ p.length) (fun i => p.length - i) 0 ?_
  intro s0 e
  simp -dsimp at e
  subst e
  refine ⟨?_, ?_⟩
  · simp [ovI, setN]
  intro i hi
  simp -dsimp [setN_len, hm]
  refine ⟨fun h1 => ⟨h1, fun z hz => ?_⟩, fun h1 => ?_⟩
  · have hg : m.getD i 0 = z := by simp [hz]
    refine ⟨fun e => ⟨h1, i + 1, ⟨by rw [w64 (by omega) (by omega)]; simp, ?_⟩, by omega, by omega⟩, fun e => ⟨i + 1, ⟨by rw [w64 (by omega) (by omega)]; simp, ?_⟩, by omega, by omega⟩⟩
    · simp only [ovI, setN, hg, decide_eq_true e, if_true]
    · simp only [ovI, setN, hg, decide_eq_false e, if_false, Bool.false_eq_true]
  · rw [show i = p.length by omega]
abbrev ovS (a b c u v : Int) (p m : List Int) (ink : Int) (n : Nat) : List Int := setN (fun k => decide (m.getD k 0 = 1)) (mv a b c u v) (fun _ => ink) p n
theorem s_over (f a b c : Int) (p : List Int) (f' a' b' c' : Int) (m : List Int) (ink u v : Int) (hl : okL a b c = true) (hp : (p.length : Int) = a * c) (hm : m.length = p.length) (hu : u.natAbs ≤ 1000) (hv : v.natAbs ≤ 1000) : Sp Try.prog 33 [aP f a b c p, aP f' a' b' c' m, vi ink, aV u v] (oP f a b c 0) [.row 0 2 (is (ovS a b c u v p m ink p.length))] := by
  obtain ⟨ha, hc, hb, hac⟩ := okL_spec.1 hl
  have h1 := ac_pos ha.1 hc.1
  have hn := nat_n ha.1 hc.1 hp
  refine sp_of (m := no) mixed Try.func33 k33 ?_
  simp -dsimp [q]
  refine call_of (s_scells a b c ha hc) rfl (by simp) ?_
  try simp -dsimp
  try (first | exact fp_one (by decide) | refine fp_and (by decide) ?_)
  refine call_of (s_own p (by omega)) rfl (by simp) ?_
  try simp -dsimp
  try (first | exact fp_one (by decide) | refine fp_and (by decide) ?_)
  refine awp_it (false :: false :: true :: false :: true :: true :: false :: true :: true :: true :: true :: true :: []) (fun i : Nat => [(11, vi i)]) (fun i => [(6, .row 0 2 (is (ovS a b c u v p m ink i)))]) (fun i => i ≤ p.length) (fun i => p.length - i) 0 ?_
  intro s0 e
  simp -dsimp at e
  subst e
  refine ⟨?_, ?_⟩
  · simp [ovS, setN]
  intro i hi
  simp -dsimp [setN_len, hm, cellsL_len, hn]
  refine ⟨fun h1 => ⟨h1, fun z hz => ?_⟩, fun h1 => ?_⟩
  · have hg : m.getD i 0 = z := by simp [hz]
    refine ⟨fun e => ⟨h1, fun x y hxy => ?_⟩, fun e => ⟨i + 1, ⟨by rw [w64 (by omega) (by omega)]; simp, ?_⟩, by omega, by omega⟩⟩
    · obtain ⟨⟨k1, k2⟩, k3, _⟩ := cell_of ha.1 hc.1 hxy
      have k4 := k3 b u v
      have k5 := num_range (a := a) (b := b) (c := c) (x := x + u) (y := y + v) (by omega) (by omega)
      refine call_of (s_sadd _ _ _ _ (by omega) (by omega) (by omega) (by omega)) rfl (by simp) ?_
      try simp -dsimp
      try (first | exact fp_one (by decide) | refine fp_and (by decide) ?_)
      refine call_of (s_snumber _ _ _ _ _ ha hb hc (by omega) (by omega)) rfl (by simp) ?_
      try simp -dsimp
      try (first | exact fp_one (by decide) | refine fp_and (by decide) ?_)
      simp only [setN_len]
      refine ⟨⟨k5.1, by omega⟩, by omega, by decide, i + 1, ⟨by rw [w64 (by omega) (by omega)]; simp, ?_⟩, by omega, by omega⟩
      simp only [ovS, setN, hg, decide_eq_true e, if_true, k4]
    · simp only [ovS, setN, hg, decide_eq_false e, if_false, Bool.false_eq_true]
  · rw [show i = p.length by omega]
end Go.Proofs.YtgkhakhkebjbpaaEv
namespace Go.Proofs.YtgkhakhkebjbpaaEv
open Go Go.Proofs
set_option maxRecDepth 10000
theorem lf_one {a : Int} (ha : 0 < a) : lstep (0, 0, 0) (a, 0) = (a, 0, 0) ∧ lstepS (0, 0, 0) (a, 0) = (a, 0, 0) := by
  have h : (a.natAbs : Int) = a := by omega
  simp [lstep, lstepS, eu, h]
theorem eu_two {a b c : Int} (hc : 0 < c) : eu c.natAbs (0, 0) (b, c) = ((b, c), (0, 0)) := by
  have h := eu_step (h := (0, 0)) (v := (b, c)) (show c ≠ 0 by omega)
  simp only at h
  rw [h]
  simp [eu]
theorem lf_two {a b c : Int} (ha : 0 < a) (hc : 0 < c) : lstep (a, 0, 0) (b, c) = (a, b, c) ∧ lstepS (a, 0, 0) (b, c) = (a, b % a, c) := by
  have h : (a.natAbs : Int) = a := by omega
  simp only [lstep, lstepS, eu_two (a := a) (b := b) hc, Int.gcd_zero_right, h, if_pos ha, and_self]
theorem lf_basis {a b c : Int} (ha : 0 < a) (hc : 0 < c) : lfold [(a, 0), (b, c)] = (a, b, c) ∧ lfoldS [(a, 0), (b, c)] = (a, b % a, c) := by
  simp only [lfold, lfoldS, List.foldl_cons, List.foldl_nil, lf_one ha, lf_two ha hc, and_self]
theorem take2 {α : Type} (x y : α) (P : List α → Prop) (h0 : P []) (h1 : P [x]) (h2 : P [x, y]) : ∀ k, P (([x, y] : List α).take k)
  | 0 => h0
  | 1 => h1
  | k + 2 => by simpa using h2
theorem ls_basis {a b c : Int} (ha : 1 ≤ a ∧ a ≤ 64) (hb : 0 ≤ b ∧ b < a) (hc : 1 ≤ c ∧ c ≤ 64) : lsmall [(a, 0), (b, c)] ∧ lsmallS [(a, 0), (b, c)] := by
  have hv : ∀ v ∈ ([(a, 0), (b, c)] : List (Int × Int)), smallV 1000000 v := by
    intro v hv
    simp only [List.mem_cons, List.not_mem_nil, or_false] at hv
    rcases hv with rfl | rfl <;> exact ⟨by simp only; omega, by simp only; omega⟩
  have h1 := lf_one (a := a) (by omega)
  have h2 := lf_basis (a := a) (b := b) (c := c) (by omega) (by omega)
  have h3 : b % a = b := Int.emod_eq_of_lt hb.1 hb.2
  refine ⟨⟨hv, take2 _ _ (fun l => smallV 1000000 (lfold l).2 ∧ (lfold l).1.natAbs ≤ 1000000) ?_ ?_ ?_⟩, hv, take2 _ _ (fun l => smallV 1000000 (lfoldS l).2 ∧ (lfoldS l).1.natAbs ≤ 1000000) ?_ ?_ ?_⟩
  · simp [lfold, smallV]
  · simp only [lfold, List.foldl_cons, List.foldl_nil, h1.1, smallV]; omega
  · rw [h2.1]; simp only [smallV]; omega
  · simp [lfoldS, smallV]
  · simp only [lfoldS, List.foldl_cons, List.foldl_nil, h1.2, smallV]; omega
  · rw [h2.2]; simp only [smallV]; omega
theorem s_hermite_basis (a b c : Int) (ha : 1 ≤ a ∧ a ≤ 64) (hb : 0 ≤ b ∧ b < a) (hc : 1 ≤ c ∧ c ≤ 64) : Sp Try.prog 85 [.v (vvs [(a, 0), (b, c)])] (aL a b c) [] := by
  have h := s_hermite [(a, 0), (b, c)] (by simp) (ls_basis ha hb hc).2 (by rw [(lf_basis (by omega) (by omega)).2]; simp only; omega)
  rw [(lf_basis (by omega) (by omega)).2] at h
  simp only [lfin, if_neg (show ¬ c < 0 by omega), Int.emod_eq_of_lt hb.1 hb.2] at h
  exact h
theorem s_sbasisL (a b c : Int) : Sp Try.prog 84 [aL a b c] (.v (.sl 2 [.ag [.int .i64 a, .int .i64 0], .ag [.int .i64 b, .int .i64 c]])) [] := s_sbasis a b c
theorem s_image1 (a b c : Int) (ha : 1 ≤ a ∧ a ≤ 64) (hb : 0 ≤ b ∧ b < a) (hc : 1 ≤ c ∧ c ≤ 64) : Sp Try.prog 78 [aM 1 0 0 1, aL a b c] (aL a b c) [] := by
  refine sp_of (m := no) mixed Try.func78 k78 ?_
  simp -dsimp [q]
  refine call_of (s_sbasisL a b c) rfl (by simp) ?_
  try simp -dsimp
  try (first | exact fp_one (by decide) | refine fp_and (by decide) ?_)
  refine call_of (s_sapply 1 0 0 1 a 0 (by decide) ⟨by omega, by omega⟩) rfl (by simp) ?_
  try simp -dsimp
  try (first | exact fp_one (by decide) | refine fp_and (by decide) ?_)
  refine call_of (s_sapply 1 0 0 1 b c (by decide) ⟨by omega, by omega⟩) rfl (by simp) ?_
  try simp -dsimp
  try (first | exact fp_one (by decide) | refine fp_and (by decide) ?_)
  refine call_of (s_hermite_basis a b c ha hb hc) rfl (by simp) ?_
  try simp -dsimp
  try (first | exact fp_one (by decide) | refine fp_and (by decide) ?_)
abbrev mvI (a b c u v : Int) (l : List Int) (n : Nat) : List Int := (List.range n).map fun j => l.getD (mv a b c (-u) (-v) j) 0
theorem mvI_take {a b c u v : Int} {l : List Int} {n i : Nat} (hi : i < n) : (mvI a b c u v l n).take (i + 1) = (mvI a b c u v l n).take i ++ [l.getD (mv a b c (-u) (-v) i) 0] := by
  rw [List.take_add_one]
  simp [mvI, List.getElem?_range hi]
theorem mvI_len {a b c u v : Int} {l : List Int} {n : Nat} : (mvI a b c u v l n).length = n := by simp [mvI]
theorem mvS_eq {a b c u v : Int} {l : List Int} (ha : 0 < a) (hc : 0 < c) (hl : (l.length : Int) = a * c) : setN (fun _ => true) (mv a b c u v) (fun k => l.getD k 0) (List.replicate l.length 0) l.length = mvI a b c u v l l.length := by
  apply List.ext_getElem?
  intro j
  by_cases hj : j < l.length
  · have h1 : mv a b c (-u) (-v) j < l.length := by have := mv_lt (b := b) (u := -u) (v := -v) ha hc j; omega
    rw [setN_get (p := fun _ => true) (i := mv a b c (-u) (-v) j) (m := l.length) (by simpa using hj) h1 (fun k hk => mv_iff ha hc (by omega) (by omega)) l.length (Nat.le_refl _)]
    simp [h1, hj, mvI, List.getElem?_range hj]
  · rw [List.getElem?_eq_none (by rw [setN_len]; simp; omega), List.getElem?_eq_none (by rw [mvI_len]; omega)]
theorem cdec_eq (p : Prop) [Decidable p] : cdec p = decide p := by
  by_cases h : p
  · rw [decide_eq_true h, cdec_true.2 h]
  · rw [decide_eq_false h, cdec_false.2 h]
theorem s_sameCells (f a b c : Int) (l : List Int) (f' a' b' c' : Int) (l' : List Int) : Sp Try.prog 28 [aP f a b c l, aP f' a' b' c' l'] (vb (decide (f = f' ∧ a = a' ∧ b = b' ∧ c = c'))) [] := by
  refine sp_of (m := no) mixed Try.func28 k28 ?_
  simp -dsimp [q, cdec_eq]
  by_cases h : f = f'
  · simp [h]
  · simp [h]
/-! the search -/
def fR : Option (Int × Int) → Int × Int × Int
  | some t => (t.1, t.2, 0)
  | none => (0, 0, 4)
def fF (a b c : Int) (l l' : List Int) : Option (Int × Int) := (cellsL c.toNat a.toNat).find? fun t => decide (mvI a b c t.1 t.2 l l.length = l')
theorem find_hit {α : Type} {l : List α} {p : α → Bool} {i : Nat} {z : α} (hz : l[i]? = some z) (hp : p z = true) (hn : ∀ x ∈ l.take i, p x = false) : l.find? p = some z := by
  obtain ⟨hi, rfl⟩ := List.getElem?_eq_some_iff.1 hz
  refine List.find?_eq_some_iff_getElem.2 ⟨hp, i, hi, rfl, fun j hj => ?_⟩
  simp [hn l[j] (List.mem_take_iff_getElem.2 ⟨j, by omega, rfl⟩)]
theorem find_miss {α : Type} {l : List α} {p : α → Bool} {i : Nat} (hi : l.length ≤ i) (hn : ∀ x ∈ l.take i, p x = false) : l.find? p = none := by
  rw [List.take_of_length_le hi] at hn
  exact List.find?_eq_none.2 (fun x hx => by simp [hn x hx])
theorem mem_take_succ {α : Type} {l : List α} {i : Nat} {z x : α} (hz : l[i]? = some z) (hx : x ∈ l.take (i + 1)) : x ∈ l.take i ∨ x = z := by
  rw [List.take_add_one, hz] at hx
  simpa using hx
/-! what is not to be searched -/
end Go.Proofs.YtgkhakhkebjbpaaEv
namespace Go.Proofs.YtgkhakhkebjbpaaEv
open Go Go.Proofs
set_option maxRecDepth 10000
theorem setN_congr {p : Nat → Bool} {ix ix' : Nat → Nat} {val : Nat → Int} {l : List Int} : ∀ {n : Nat}, (∀ k, k < n → ix k = ix' k) → setN p ix val l n = setN p ix' val l n
  | 0, _ => rfl
  | n + 1, h => by simp only [setN]; rw [setN_congr (fun k hk => h k (by omega)), h n (by omega)]
theorem ovS_zero {a b c : Int} {p m : List Int} {ink : Int} (hc : 0 < c) (hp : (p.length : Int) = a * c) : ovS a b c 0 0 p m ink p.length = ovI p m ink p.length :=
  setN_congr fun k hk => by
    have := num_cell (a := a) (b := b) hc (k := k) (by omega)
    simp only [mv, Int.add_zero]
    omega
theorem s_isInk (n : Int) : Sp Try.prog 22 [vi n] (vb (decide (1 ≤ n ∧ n ≤ 9))) [] := by
  refine sp_of (m := no) mixed Try.func22 k22 ?_
  simp -dsimp [q]
  refine call_of (s_within _ _ _) rfl (by simp) ?_
  try simp -dsimp
  try (first | exact fp_one (by decide) | refine fp_and (by decide) ?_)
def ovOk (f a b c f' a' b' c' : Int) (m : List Int) (ink : Int) : Prop := (1 ≤ ink ∧ ink ≤ 9) ∧ (f = f' ∧ a = a' ∧ b = b' ∧ c = c') ∧ (m.all fun n => decide (0 ≤ n ∧ n ≤ 1)) = true
section
variable (f a b c : Int) (p : List Int) (f' a' b' c' : Int) (m : List Int) (ink : Int) (hp : p.length ≤ 1048576) (hm : m.length ≤ 1048576)
include hp hm
theorem s_ov (h1 : okP f a b c p = true) (h2 : okP f' a' b' c' m = true) (h3 : ovOk f a b c f' a' b' c' m ink) : Sp Try.prog 9 [aP f a b c p, aP f' a' b' c' m, vi ink] (.tu [oP f a b c 0, vi 0]) [.row 0 2 (is (ovI p m ink p.length))] := by
  have w1 := s_isP f a b c p hp
  have w2 := s_isP f' a' b' c' m hm
  have w3 := s_isInk ink
  have w4 := s_sameCells f a b c p f' a' b' c' m
  have w5 := s_all m 0 1 hm
  rw [h1] at w1
  rw [h2] at w2
  rw [decide_eq_true h3.1] at w3
  rw [decide_eq_true h3.2.1] at w4
  rw [h3.2.2] at w5
  obtain ⟨_, k2, k3, _⟩ := okP_spec.1 h1
  obtain ⟨_, _, k3', _⟩ := okP_spec.1 h2
  obtain ⟨ha, hc, hb, hac⟩ := okL_spec.1 k2
  have k1 := ac_pos ha.1 hc.1
  have h0 : p ≠ [] := by rintro rfl; simp at k3; omega
  have hl : m.length = p.length := by obtain ⟨_, ⟨rfl, rfl, rfl, rfl⟩, _⟩ := h3; omega
  refine sp_of (m := no) mixed Try.func9 k9 ?_
  simp -dsimp [q]
  refine call_of (w1) rfl (by simp) ?_
  try simp -dsimp
  try (first | exact fp_one (by decide) | refine fp_and (by decide) ?_)
  refine call_of (w2) rfl (by simp) ?_
  try simp -dsimp
  try (first | exact fp_one (by decide) | refine fp_and (by decide) ?_)
  refine call_of (w3) rfl (by simp) ?_
  try simp -dsimp
  try (first | exact fp_one (by decide) | refine fp_and (by decide) ?_)
  refine call_of (w4) rfl (by simp) ?_
  try simp -dsimp
  try (first | exact fp_one (by decide) | refine fp_and (by decide) ?_)
  refine call_of (w5) rfl (by simp) ?_
  try simp -dsimp
  try (first | exact fp_one (by decide) | refine fp_and (by decide) ?_)
  refine call_of (s_overprint f a b c p f' a' b' c' m ink hp h0 hl) rfl (by simp) ?_
  try simp -dsimp
  try (first | exact fp_one (by decide) | refine fp_and (by decide) ?_)
theorem s_ov_bad (h1 : ¬ (okP f a b c p = true ∧ okP f' a' b' c' m = true)) : Sp Try.prog 9 [aP f a b c p, aP f' a' b' c' m, vi ink] (.tu [.ag [vi 0, vi 0, vi 0, vi 0, .nil 0], vi 1]) [] := by
  have w1 := s_isP f a b c p hp
  have w2 := s_isP f' a' b' c' m hm
  refine sp_of (m := no) mixed Try.func9 k9 ?_
  simp -dsimp [q]
  cases h : okP f a b c p
  · rw [h] at w1
    refine call_of (w1) rfl (by simp) ?_
    try simp -dsimp
    try (first | exact fp_one (by decide) | refine fp_and (by decide) ?_)
  · rw [h] at w1 h1
    refine call_of (w1) rfl (by simp) ?_
    try simp -dsimp
    try (first | exact fp_one (by decide) | refine fp_and (by decide) ?_)
    have h2 : okP f' a' b' c' m = false := by simpa using h1
    rw [h2] at w2
    refine call_of (w2) rfl (by simp) ?_
    try simp -dsimp
    try (first | exact fp_one (by decide) | refine fp_and (by decide) ?_)
theorem s_ov_far (h1 : okP f a b c p = true) (h2 : okP f' a' b' c' m = true) (h3 : ¬ ovOk f a b c f' a' b' c' m ink) : Sp Try.prog 9 [aP f a b c p, aP f' a' b' c' m, vi ink] (.tu [.ag [vi 0, vi 0, vi 0, vi 0, .nil 0], vi 2]) [] := by
  have w1 := s_isP f a b c p hp
  have w2 := s_isP f' a' b' c' m hm
  have w3 := s_isInk ink
  have w4 := s_sameCells f a b c p f' a' b' c' m
  have w5 := s_all m 0 1 hm
  rw [h1] at w1
  rw [h2] at w2
  refine sp_of (m := no) mixed Try.func9 k9 ?_
  simp -dsimp [q]
  refine call_of (w1) rfl (by simp) ?_
  try simp -dsimp
  try (first | exact fp_one (by decide) | refine fp_and (by decide) ?_)
  refine call_of (w2) rfl (by simp) ?_
  try simp -dsimp
  try (first | exact fp_one (by decide) | refine fp_and (by decide) ?_)
  by_cases e1 : 1 ≤ ink ∧ ink ≤ 9
  case neg =>
    rw [decide_eq_false e1] at w3
    refine call_of (w3) rfl (by simp) ?_
    try simp -dsimp
    try (first | exact fp_one (by decide) | refine fp_and (by decide) ?_)
  rw [decide_eq_true e1] at w3
  refine call_of (w3) rfl (by simp) ?_
  try simp -dsimp
  try (first | exact fp_one (by decide) | refine fp_and (by decide) ?_)
  by_cases e2 : f = f' ∧ a = a' ∧ b = b' ∧ c = c'
  case neg =>
    rw [decide_eq_false e2] at w4
    refine call_of (w4) rfl (by simp) ?_
    try simp -dsimp
    try (first | exact fp_one (by decide) | refine fp_and (by decide) ?_)
  rw [decide_eq_true e2] at w4
  refine call_of (w4) rfl (by simp) ?_
  try simp -dsimp
  try (first | exact fp_one (by decide) | refine fp_and (by decide) ?_)
  have e3 : (m.all fun n => decide (0 ≤ n ∧ n ≤ 1)) = false := by
    rw [Bool.eq_false_iff]; exact fun e => h3 ⟨e1, e2, e⟩
  rw [e3] at w5
  refine call_of (w5) rfl (by simp) ?_
  try simp -dsimp
  try (first | exact fp_one (by decide) | refine fp_and (by decide) ?_)
theorem s_sov (h1 : okP f a b c p = true) (h2 : okP f' a' b' c' m = true) (h3 : ovOk f a b c f' a' b' c' m ink) : Sp Try.prog 10 [aP f a b c p, aP f' a' b' c' m, vi ink] (.tu [oP f a b c 0, vi 0]) [.row 0 2 (is (ovI p m ink p.length))] := by
  have w1 := s_sisP f a b c p hp
  have w2 := s_sisP f' a' b' c' m hm
  have w3 := s_in ink 1 9
  have w5 := s_sall m 64 0 1 hm
  rw [h1] at w1
  rw [h2] at w2
  rw [decide_eq_true h3.1] at w3
  obtain ⟨_, k2, k3, _⟩ := okP_spec.1 h1
  obtain ⟨_, _, k3', _⟩ := okP_spec.1 h2
  obtain ⟨ha, hc, hb, hac⟩ := okL_spec.1 k2
  have k1 := ac_pos ha.1 hc.1
  obtain ⟨_, ⟨rfl, rfl, rfl, rfl⟩, h4⟩ := h3
  rw [h4, decide_eq_true (show (m.length : Int) ≤ 64 by omega)] at w5
  have hl : m.length = p.length := by omega
  have w6 := s_over f a b c p f a b c m ink 0 0 k2 k3 hl (by decide) (by decide)
  rw [ovS_zero (by omega) k3] at w6
  refine sp_of (m := no) mixed Try.func10 k10 ?_
  simp -dsimp [q, cdec_eq]
  refine call_of (w1) rfl (by simp) ?_
  try simp -dsimp
  try (first | exact fp_one (by decide) | refine fp_and (by decide) ?_)
  refine call_of (w2) rfl (by simp) ?_
  try simp -dsimp
  try (first | exact fp_one (by decide) | refine fp_and (by decide) ?_)
  refine call_of (w3) rfl (by simp) ?_
  try simp -dsimp
  try (first | exact fp_one (by decide) | refine fp_and (by decide) ?_)
  refine call_of (w5) rfl (by simp) ?_
  try simp -dsimp
  try (first | exact fp_one (by decide) | refine fp_and (by decide) ?_)
  refine call_of (w6) rfl (by simp) ?_
  try simp -dsimp
  try (first | exact fp_one (by decide) | refine fp_and (by decide) ?_)
theorem s_sov_bad (h1 : ¬ (okP f a b c p = true ∧ okP f' a' b' c' m = true)) : Sp Try.prog 10 [aP f a b c p, aP f' a' b' c' m, vi ink] (.tu [.ag [vi 0, vi 0, vi 0, vi 0, .nil 0], vi 1]) [] := by
  have w1 := s_sisP f a b c p hp
  have w2 := s_sisP f' a' b' c' m hm
  refine sp_of (m := no) mixed Try.func10 k10 ?_
  simp -dsimp [q]
  cases h : okP f a b c p
  · rw [h] at w1
    refine call_of (w1) rfl (by simp) ?_
    try simp -dsimp
    try (first | exact fp_one (by decide) | refine fp_and (by decide) ?_)
  · rw [h] at w1 h1
    refine call_of (w1) rfl (by simp) ?_
    try simp -dsimp
    try (first | exact fp_one (by decide) | refine fp_and (by decide) ?_)
    have h2 : okP f' a' b' c' m = false := by simpa using h1
    rw [h2] at w2
    refine call_of (w2) rfl (by simp) ?_
    try simp -dsimp
    try (first | exact fp_one (by decide) | refine fp_and (by decide) ?_)
theorem s_sov_far (h1 : okP f a b c p = true) (h2 : okP f' a' b' c' m = true) (h3 : ¬ ovOk f a b c f' a' b' c' m ink) : Sp Try.prog 10 [aP f a b c p, aP f' a' b' c' m, vi ink] (.tu [.ag [vi 0, vi 0, vi 0, vi 0, .nil 0], vi 2]) [] := by
  have w1 := s_sisP f a b c p hp
  have w2 := s_sisP f' a' b' c' m hm
  have w3 := s_in ink 1 9
  have w5 := s_sall m 64 0 1 hm
  rw [h1] at w1
  rw [h2] at w2
  refine sp_of (m := no) mixed Try.func10 k10 ?_
  simp -dsimp [q, cdec_eq]
  refine call_of (w1) rfl (by simp) ?_
  try simp -dsimp
  try (first | exact fp_one (by decide) | refine fp_and (by decide) ?_)
  refine call_of (w2) rfl (by simp) ?_
  try simp -dsimp
  try (first | exact fp_one (by decide) | refine fp_and (by decide) ?_)
  by_cases e1 : 1 ≤ ink ∧ ink ≤ 9
  case neg =>
    rw [decide_eq_false e1] at w3
    refine call_of (w3) rfl (by simp) ?_
    try simp -dsimp
    try (first | exact fp_one (by decide) | refine fp_and (by decide) ?_)
  rw [decide_eq_true e1] at w3
  refine call_of (w3) rfl (by simp) ?_
  try simp -dsimp
  try (first | exact fp_one (by decide) | refine fp_and (by decide) ?_)
  by_cases e0 : f' = f
  case neg => exact fun e => absurd e e0
  by_cases e2 : a' = a ∧ b' = b ∧ c' = c
  case neg => exact fun _ x1 x2 x3 => absurd ⟨x1, x2, x3⟩ e2
  obtain ⟨rfl, rfl, rfl⟩ := e2
  subst e0
  have e3 : (m.all fun n => decide (0 ≤ n ∧ n ≤ 1)) = false := by
    rw [Bool.eq_false_iff]; exact fun e => h3 ⟨e1, ⟨rfl, rfl, rfl, rfl⟩, e⟩
  rw [e3] at w5
  intro _ _ _ _
  refine call_of (w5) rfl (by simp) ?_
  try simp -dsimp
  try (first | exact fp_one (by decide) | refine fp_and (by decide) ?_)
end
end Go.Proofs.YtgkhakhkebjbpaaEv
namespace Go.Proofs.YtgkhakhkebjbpaaEv
open Go Go.Proofs
set_option maxRecDepth 10000
/-! lists of vectors -/
def okS (l : List (Int × Int)) : Bool := decide (l.length = 9) && l.all fun v => okV v.1 v.2
theorem all_not_any {α : Type} (l : List α) (p : α → Bool) : (!(l.any fun v => !p v)) = l.all p := by
  induction l with
  | nil => rfl
  | cons x l ih => simp only [List.any_cons, List.all_cons, Bool.not_or, Bool.not_not, ih]
theorem s_scode25 (f a b c : Int) (l : List Int) (t : Bool) (hl : l.length ≤ 1048576) : Sp Try.prog 24 [aP f a b c l, vb t] (vi (if okP f a b c l = true then if t = true then 0 else 2 else 1)) [] := by
  refine sp_of (m := no) mixed Try.func24 k24 ?_
  simp -dsimp [q]
  refine call_of (s_sisP f a b c l hl) rfl (by simp) ?_
  cases okP f a b c l <;> cases t <;> simp -dsimp
/-! the prints -/
theorem okP_mask {f a b c : Int} {l : List Int} (ink : Int) (h : okP f a b c l = true) : okP f a b c (maskL l ink) = true := by
  rw [okP_spec] at h ⊢
  refine ⟨h.1, h.2.1, by rw [maskL_len]; exact h.2.2.1, fun n hn => ?_⟩
  obtain ⟨x, _, rfl⟩ := List.mem_map.1 hn
  split <;> omega
theorem ovS_eq {a b c u v : Int} {p m : List Int} {ink : Int} (ha : 0 < a) (hc : 0 < c) (hp : (p.length : Int) = a * c) (hm : m.length = p.length) : ovS a b c u v p m ink p.length = ovI p (mvI a b c u v m m.length) ink p.length := by
  apply List.ext_getElem?
  intro j
  by_cases hj : j < p.length
  · have h1 : mv a b c (-u) (-v) j < p.length := by have := mv_lt (b := b) (u := -u) (v := -v) ha hc j; omega
    rw [setN_get (i := mv a b c (-u) (-v) j) (m := p.length) hj h1 (fun k hk => mv_iff ha hc (by omega) (by omega)) p.length (Nat.le_refl _)]
    rw [setN_get (i := j) (m := p.length) hj hj (fun k hk => Iff.rfl) p.length (Nat.le_refl _)]
    simp [h1, hj, hm, mvI, List.getElem?_range hj]
  · rw [List.getElem?_eq_none (by rw [setN_len]; omega), List.getElem?_eq_none (by rw [setN_len]; omega)]
def prL (a b c : Int) (l : List Int) (sh : List (Int × Int)) : Nat → List Int
  | 0 => List.replicate l.length 0
  | k + 1 => ovI (prL a b c l sh k) (mvI a b c (sh.getD k (0, 0)).1 (sh.getD k (0, 0)).2 (maskL l (k + 1)) l.length) (k + 1) l.length
theorem prL_len {a b c : Int} {l : List Int} {sh : List (Int × Int)} : ∀ k, (prL a b c l sh k).length = l.length
  | 0 => by simp [prL]
  | k + 1 => by rw [prL, setN_len, prL_len k]
theorem okS_get {sh : List (Int × Int)} (h : okS sh = true) {k : Nat} {x y : Int} (hk : sh[k]? = some (x, y)) : x.natAbs ≤ 1000 ∧ y.natAbs ≤ 1000 := by
  simp only [okS, Bool.and_eq_true, List.all_eq_true] at h
  have := okV_spec.1 (h.2 _ (List.mem_of_getElem? hk))
  simp only at this
  omega
/-! all of it -/
abbrev zP : A := .ag [vi 0, vi 0, vi 0, vi 0, .nil 0]
def gapL (p r : List Int) : Nat → Int
  | 0 => 0
  | n + 1 => gapL p r n + if r.getD n 0 = 0 ∧ p.getD n 0 ≠ 0 then 1 else 0
theorem gapL_bd (p r : List Int) : ∀ n, 0 ≤ gapL p r n ∧ gapL p r n ≤ n
  | 0 => by simp [gapL]
  | n + 1 => by have := gapL_bd p r n; simp only [gapL]; split <;> omega
end Go.Proofs.YtgkhakhkebjbpaaEv
namespace Go.Proofs.YtgkhakhkebjbpaaEv
open Go Go.Proofs
set_option maxRecDepth 10000
set_option maxHeartbeats 2000000
theorem tdw {x : Int} {n : Nat} (h0 : 0 ≤ x) (h1 : x ≤ 1048576) : IntKind.i64.wrap ((IntKind.i64.wrap (1000 * x)).tdiv n) = (1000 * x).tdiv n := by
  rw [w64 (n := 1000 * x) (by omega) (by omega)]
  have h2 := Int.tdiv_nonneg (a := 1000 * x) (b := (n : Int)) (by omega) (by omega)
  have h3 := Int.tdiv_le_self (a := 1000 * x) (n : Int) (by omega)
  exact w64 (by omega) (by omega)
theorem s_mO (f a b c : Int) (l : List Int) (ink : Int) (h1 : okP f a b c l = true) (h2 : 1 ≤ ink ∧ ink ≤ 9) (hl : l.length ≤ 1048576) : Sp Try.prog 6 [aP f a b c l, vi ink] (.tu [aP f a b c (maskL l ink), vi 0]) [] := by
  have w1 := s_isP f a b c l hl
  have w2 := s_isInk ink
  rw [h1] at w1
  rw [decide_eq_true h2] at w2
  have h0 : l ≠ [] := by
    obtain ⟨_, k2, k3, _⟩ := okP_spec.1 h1
    obtain ⟨ha, hc, _, _⟩ := okL_spec.1 k2
    have := ac_pos ha.1 hc.1
    rintro rfl
    simp at k3
    omega
  have w3 := s_mask f a b c l ink hl h0
  refine sp_of (m := no) mixed Try.func6 k6 ?_
  simp -dsimp [q]
  refine call_of (w1) rfl (by simp) ?_
  try simp -dsimp
  try (first | exact fp_one (by decide) | refine fp_and (by decide) ?_)
  refine call_of (w2) rfl (by simp) ?_
  try simp -dsimp
  try (first | exact fp_one (by decide) | refine fp_and (by decide) ?_)
  refine call_of (w3) rfl (by simp) ?_
  try simp -dsimp
  try (first | exact fp_one (by decide) | refine fp_and (by decide) ?_)
theorem s_mO_bad (f a b c : Int) (l : List Int) (ink : Int) (h1 : okP f a b c l = false) (hl : l.length ≤ 1048576) : Sp Try.prog 6 [aP f a b c l, vi ink] (.tu [zP, vi 1]) [] := by
  have w1 := s_isP f a b c l hl
  rw [h1] at w1
  refine sp_of (m := no) mixed Try.func6 k6 ?_
  simp -dsimp [q]
  refine call_of (w1) rfl (by simp) ?_
  try simp -dsimp
  try (first | exact fp_one (by decide) | refine fp_and (by decide) ?_)
theorem s_mO_far (f a b c : Int) (l : List Int) (ink : Int) (h1 : okP f a b c l = true) (h2 : ¬ (1 ≤ ink ∧ ink ≤ 9)) (hl : l.length ≤ 1048576) : Sp Try.prog 6 [aP f a b c l, vi ink] (.tu [zP, vi 2]) [] := by
  have w1 := s_isP f a b c l hl
  have w2 := s_isInk ink
  rw [h1] at w1
  rw [decide_eq_false h2] at w2
  refine sp_of (m := no) mixed Try.func6 k6 ?_
  simp -dsimp [q]
  refine call_of (w1) rfl (by simp) ?_
  try simp -dsimp
  try (first | exact fp_one (by decide) | refine fp_and (by decide) ?_)
  refine call_of (w2) rfl (by simp) ?_
  try simp -dsimp
  try (first | exact fp_one (by decide) | refine fp_and (by decide) ?_)
theorem s_smO (f a b c : Int) (l : List Int) (ink : Int) (h1 : okP f a b c l = true) (h2 : 1 ≤ ink ∧ ink ≤ 9) (hl : l.length ≤ 1048576) : Sp Try.prog 7 [aP f a b c l, vi ink] (.tu [aP f a b c (maskL l ink), vi 0]) [] := by
  have w1 := s_in ink 1 9
  rw [decide_eq_true h2] at w1
  have w2 := s_scode25 f a b c l true hl
  rw [if_pos h1, if_pos rfl] at w2
  have w3 := s_smask f a b c l ink hl
  refine sp_of (m := no) mixed Try.func7 k7 ?_
  simp -dsimp [q]
  refine call_of (w1) rfl (by simp) ?_
  try simp -dsimp
  try (first | exact fp_one (by decide) | refine fp_and (by decide) ?_)
  refine call_of (w2) rfl (by simp) ?_
  try simp -dsimp
  try (first | exact fp_one (by decide) | refine fp_and (by decide) ?_)
  refine call_of (w3) rfl (by simp) ?_
  try simp -dsimp
  try (first | exact fp_one (by decide) | refine fp_and (by decide) ?_)
theorem s_smO_bad (f a b c : Int) (l : List Int) (ink k : Int) (h : ¬ (okP f a b c l = true ∧ (1 ≤ ink ∧ ink ≤ 9))) (hk : k = if okP f a b c l = true then 2 else 1) (hl : l.length ≤ 1048576) : Sp Try.prog 7 [aP f a b c l, vi ink] (.tu [zP, vi k]) [] := by
  have w1 := s_in ink 1 9
  have w2 := s_scode25 f a b c l (decide (1 ≤ ink ∧ ink ≤ 9)) hl
  have e : (if okP f a b c l = true then if decide (1 ≤ ink ∧ ink ≤ 9) = true then (0 : Int) else 2 else 1) = k := by
    rw [hk]
    split
    · next h1 => rw [if_neg (by rw [decide_eq_true_eq]; exact fun h2 => h ⟨h1, h2⟩)]
    · rfl
  rw [e] at w2
  have hk0 : k ≠ 0 := by rw [hk]; split <;> decide
  generalize decide (1 ≤ ink ∧ ink ≤ 9) = T at *
  refine sp_of (m := no) mixed Try.func7 k7 ?_
  simp -dsimp [q]
  refine call_of (w1) rfl (by simp) ?_
  try simp -dsimp
  try (first | exact fp_one (by decide) | refine fp_and (by decide) ?_)
  refine call_of (w2) rfl (by simp) ?_
  try simp -dsimp
  try (first | exact fp_one (by decide) | refine fp_and (by decide) ?_)
  exact fun h => absurd h hk0
def cntA (l : List Int) (k : Int) : Int := ((l.filter fun x => decide (x = k)).length : Int)
theorem cntA_bd (l : List Int) (k : Int) : 0 ≤ cntA l k ∧ cntA l k ≤ l.length := by
  unfold cntA
  have := List.length_filter_le (fun x => decide (x = k)) l
  omega
theorem cntA_take {l : List Int} {k z : Int} {n : Nat} (h : l[n]? = some z) : cntA (l.take (n + 1)) k = cntA (l.take n) k + if z = k then 1 else 0 := by
  unfold cntA
  rw [List.take_add_one, h, List.filter_append]
  by_cases e : z = k
  · simp [e]
  · simp [e]
def cn (l : List Int) : List Int := (List.range 10).map fun k : Nat => cntA l k
theorem cn_len (l : List Int) : (cn l).length = 10 := by simp [cn]
theorem cn_get (l : List Int) (k : Nat) (hk : k < 10) : (cn l)[k]? = some (cntA l k) := by simp [cn, hk]
theorem cn_zero : cn [] = List.replicate 10 0 := rfl
theorem cn_set {l : List Int} {z : Int} {n : Nat} (h : l[n]? = some z) (hz : 0 ≤ z ∧ z ≤ 9) : (cn (l.take n)).set z.toNat (cntA (l.take n) z + 1) = cn (l.take (n + 1)) := by
  apply List.ext_getElem?
  intro j
  by_cases hj : j < 10
  · rw [cn_get _ _ hj, List.getElem?_set, cntA_take h]
    by_cases e : z.toNat = j
    · rw [if_pos e, if_pos (by rw [cn_len]; omega), if_pos (by omega)]
      have : (j : Int) = z := by omega
      rw [this]
    · rw [if_neg e, cn_get _ _ hj, if_neg (by omega), Int.add_zero]
  · rw [List.getElem?_eq_none (by rw [List.length_set, cn_len]; omega), List.getElem?_eq_none (by rw [cn_len]; omega)]
theorem s_cc (f a b c : Int) (l : List Int) (h1 : okP f a b c l = true) (hl : l.length ≤ 1048576) : Sp Try.prog 39 [aP f a b c l] (.tu [.sli 0, vi 0]) [.row 0 2 (is (cn l))] := by
  have w1 := s_isP f a b c l hl
  rw [h1] at w1
  obtain ⟨_, _, _, k4⟩ := okP_spec.1 h1
  refine sp_of (m := no) mixed Try.func39 k39 ?_
  simp -dsimp [q]
  refine call_of (w1) rfl (by simp) ?_
  try simp -dsimp
  try (first | exact fp_one (by decide) | refine fp_and (by decide) ?_)
  refine awp_it (false :: false :: false :: false :: true :: false :: false :: false :: false :: false :: false :: false :: true :: true :: true :: []) (fun i : Nat => [(14, vi i)]) (fun i => [(0, .row 0 2 (is (cn (l.take i))))]) (fun i => i ≤ l.length) (fun i => l.length - i) 0 ?_
  intro s0 e
  simp -dsimp at e
  subst e
  refine ⟨?_, ?_⟩
  · simp [cn_zero]
  intro i hi
  simp -dsimp [cn_len]
  refine ⟨fun h2 => ⟨h2, fun z hz => ?_⟩, fun h2 => ?_⟩
  · have hzb := k4 z (List.mem_of_getElem? hz)
    have hg : (cn (l.take i))[z.toNat]? = some (cntA (l.take i) z) := by
      rw [cn_get _ _ (by omega)]
      congr 2
      omega
    have hb := cntA_bd (l.take i) z
    have hb2 : (l.take i).length ≤ l.length := by rw [List.length_take]; omega
    have hs := cn_set hz hzb
    simp only [hg]
    simp -dsimp
    refine ⟨⟨by omega, by omega⟩, by omega, ⟨by omega, by omega⟩, ?_⟩
    refine ⟨by omega, i + 1, ⟨by rw [w64 (by omega) (by omega)]; simp, ?_⟩, by omega, by omega⟩
    rw [← hs, w64 (by omega) (by omega)]
    try simp
  · rw [List.take_of_length_le (by omega)]
theorem s_cc_bad (f a b c : Int) (l : List Int) (h1 : okP f a b c l = false) (hl : l.length ≤ 1048576) : Sp Try.prog 39 [aP f a b c l] (.tu [.nil 0, vi 1]) [] := by
  have w1 := s_isP f a b c l hl
  rw [h1] at w1
  refine sp_of (m := no) mixed Try.func39 k39 ?_
  simp -dsimp [q]
  refine call_of (w1) rfl (by simp) ?_
  try simp -dsimp
  try (first | exact fp_one (by decide) | refine fp_and (by decide) ?_)
theorem s_isr (f a b c : Int) (l : List Int) (ink : Int) (h1 : okP f a b c l = true) (h2 : 1 ≤ ink ∧ ink ≤ 9) (hl : l.length ≤ 1048576) : Sp Try.prog 14 [aP f a b c l, vi ink] (.tu [vi ((1000 * cntA l ink).tdiv l.length), vi 0]) [] := by
  have w1 := s_cc f a b c l h1 hl
  have w2 := s_isInk ink
  rw [decide_eq_true h2] at w2
  obtain ⟨_, k2, k3, _⟩ := okP_spec.1 h1
  obtain ⟨ha, hc, _, hac⟩ := okL_spec.1 k2
  have hp := ac_pos ha.1 hc.1
  have w3 := s_index a b c ha hc
  have hb := cntA_bd l ink
  have hg : (cn l)[ink.toNat]? = some (cntA l ink) := by
    rw [cn_get _ _ (by omega)]
    congr 2
    omega
  rw [← k3] at w3
  refine sp_of (m := no) mixed Try.func14 k14 ?_
  simp -dsimp [q]
  refine call_of (w1) rfl (by simp) ?_
  try simp -dsimp
  try (first | exact fp_one (by decide) | refine fp_and (by decide) ?_)
  refine call_of (w2) rfl (by simp) ?_
  try simp -dsimp
  try (first | exact fp_one (by decide) | refine fp_and (by decide) ?_)
  simp -dsimp [cn_len, hg]
  refine ⟨⟨by omega, by omega⟩, by omega, ?_⟩
  refine call_of (w3) rfl (by simp) ?_
  try simp -dsimp
  try (first | exact fp_one (by decide) | refine fp_and (by decide) ?_)
  refine ⟨?_, tdw hb.1 (by omega)⟩
  try (rintro rfl; simp at k3; omega)
theorem s_isr_bad (f a b c : Int) (l : List Int) (ink : Int) (h1 : okP f a b c l = false) (hl : l.length ≤ 1048576) : Sp Try.prog 14 [aP f a b c l, vi ink] (.tu [vi 0, vi 1]) [] := by
  have w1 := s_cc_bad f a b c l h1 hl
  refine sp_of (m := no) mixed Try.func14 k14 ?_
  simp -dsimp [q]
  refine call_of (w1) rfl (by simp) ?_
  try simp -dsimp
  try (first | exact fp_one (by decide) | refine fp_and (by decide) ?_)
theorem s_isr_far (f a b c : Int) (l : List Int) (ink : Int) (h1 : okP f a b c l = true) (h2 : ¬ (1 ≤ ink ∧ ink ≤ 9)) (hl : l.length ≤ 1048576) : Sp Try.prog 14 [aP f a b c l, vi ink] (.tu [vi 0, vi 2]) [] := by
  have w1 := s_cc f a b c l h1 hl
  have w2 := s_isInk ink
  rw [decide_eq_false h2] at w2
  refine sp_of (m := no) mixed Try.func14 k14 ?_
  simp -dsimp [q]
  refine call_of (w1) rfl (by simp) ?_
  try simp -dsimp
  try (first | exact fp_one (by decide) | refine fp_and (by decide) ?_)
  refine call_of (w2) rfl (by simp) ?_
  try simp -dsimp
  try (first | exact fp_one (by decide) | refine fp_and (by decide) ?_)
theorem s_sisr (f a b c : Int) (l : List Int) (ink : Int) (h1 : okP f a b c l = true) (h2 : 1 ≤ ink ∧ ink ≤ 9) (hl : l.length ≤ 1048576) : Sp Try.prog 15 [aP f a b c l, vi ink] (.tu [vi ((1000 * cntA l ink).tdiv l.length), vi 0]) [] := by
  have w1 := s_in ink 1 9
  rw [decide_eq_true h2] at w1
  have w2 := s_scode25 f a b c l true hl
  rw [if_pos h1, if_pos rfl] at w2
  obtain ⟨_, k2, k3, _⟩ := okP_spec.1 h1
  obtain ⟨ha, hc, _, hac⟩ := okL_spec.1 k2
  have hp := ac_pos ha.1 hc.1
  refine sp_of (m := no) mixed Try.func15 k15 ?_
  simp -dsimp [q]
  refine call_of (w1) rfl (by simp) ?_
  try simp -dsimp
  try (first | exact fp_one (by decide) | refine fp_and (by decide) ?_)
  refine call_of (w2) rfl (by simp) ?_
  try simp -dsimp
  try (first | exact fp_one (by decide) | refine fp_and (by decide) ?_)
  refine awp_it (false :: true :: true :: false :: false :: false :: false :: true :: true :: []) (fun i : Nat => [(7, vi (cntA (l.take i) ink)), (8, vi i)]) (fun i => []) (fun i => i ≤ l.length) (fun i => l.length - i) 0 ?_
  intro s0 e
  simp -dsimp at e
  subst e
  refine ⟨?_, ?_⟩
  · simp [cntA]
  intro i hi
  have hb := cntA_bd (l.take i) ink
  have hb2 : (l.take i).length ≤ l.length := by rw [List.length_take]; omega
  simp -dsimp
  refine ⟨fun h2 => ⟨h2, fun z hz => ?_⟩, fun h2 => ?_⟩
  · have ht := cntA_take (k := ink) hz
    refine ⟨fun e => ⟨i + 1, ?_, by omega, by omega⟩, fun e => ⟨i + 1, ?_, by omega, by omega⟩⟩
    · rw [if_pos e] at ht
      rw [ht, w64 (by omega) (by omega), w64 (by omega) (by omega)]
      simp
    · rw [if_neg e] at ht
      rw [ht, w64 (by omega) (by omega)]
      simp
  · rw [List.take_of_length_le (by omega)] at *
    exact ⟨by rintro rfl; simp at k3; omega, tdw hb.1 (by omega)⟩
theorem s_sisr_bad (f a b c : Int) (l : List Int) (ink k : Int) (h : ¬ (okP f a b c l = true ∧ (1 ≤ ink ∧ ink ≤ 9))) (hk : k = if okP f a b c l = true then 2 else 1) (hl : l.length ≤ 1048576) : Sp Try.prog 15 [aP f a b c l, vi ink] (.tu [vi 0, vi k]) [] := by
  have w1 := s_in ink 1 9
  have w2 := s_scode25 f a b c l (decide (1 ≤ ink ∧ ink ≤ 9)) hl
  have e : (if okP f a b c l = true then if decide (1 ≤ ink ∧ ink ≤ 9) = true then (0 : Int) else 2 else 1) = k := by
    rw [hk]
    split
    · next h1 => rw [if_neg (by rw [decide_eq_true_eq]; exact fun h2 => h ⟨h1, h2⟩)]
    · rfl
  rw [e] at w2
  have hk0 : k ≠ 0 := by rw [hk]; split <;> decide
  generalize decide (1 ≤ ink ∧ ink ≤ 9) = T at *
  refine sp_of (m := no) mixed Try.func15 k15 ?_
  simp -dsimp [q]
  refine call_of (w1) rfl (by simp) ?_
  try simp -dsimp
  try (first | exact fp_one (by decide) | refine fp_and (by decide) ?_)
  refine call_of (w2) rfl (by simp) ?_
  try simp -dsimp
  try (first | exact fp_one (by decide) | refine fp_and (by decide) ?_)
  exact fun h => absurd h hk0
theorem s_sumI (l : List Int) (ink : Int) (hl : l.length ≤ 1048576) : Sp Try.prog 17 [.v (vis (maskL l ink))] (vi (cntA l ink)) [] := by
  refine sp_of (m := no) mixed Try.func17 k17 ?_
  simp -dsimp [q]
  refine awp_it (true :: false :: false :: true :: true :: []) (fun i : Nat => [(3, vi (cntA (l.take i) ink)), (4, vi i)]) (fun i => []) (fun i => i ≤ l.length) (fun i => l.length - i) 0 ?_
  intro s0 e
  simp -dsimp at e
  subst e
  refine ⟨?_, ?_⟩
  · simp [cntA]
  intro i hi
  have hb := cntA_bd (l.take i) ink
  have hb2 : (l.take i).length ≤ l.length := by rw [List.length_take]; omega
  simp -dsimp [maskL_len]
  refine ⟨fun h2 => ⟨h2, fun z hz => ⟨i + 1, ?_, by omega, by omega⟩⟩, fun h2 => ?_⟩
  · have hm : ∃ y, l[i]? = some y ∧ z = if y = ink then 1 else 0 := by
      simp only [maskL, List.getElem?_map, Option.map_eq_some_iff] at hz
      obtain ⟨y, hy, e⟩ := hz
      exact ⟨y, hy, e.symm⟩
    obtain ⟨y, hy, e⟩ := hm
    have ht := cntA_take (k := ink) hy
    rw [ht, ← e]
    have hz2 : 0 ≤ z ∧ z ≤ 1 := by rw [e]; split <;> omega
    rw [w64 (n := (i : Int) + 1) (by omega) (by omega), w64 (by omega) (by omega)]
    simp
  · rw [List.take_of_length_le (by omega)]
end Go.Proofs.YtgkhakhkebjbpaaEv
namespace Go.Proofs.YtgkhakhkebjbpaaEv
open Go Go.Proofs
set_option maxRecDepth 10000
abbrev M4 := Int × Int × Int × Int
def vm (m : M4) : V := .ag [.int .i64 m.1, .int .i64 m.2.1, .int .i64 m.2.2.1, .int .i64 m.2.2.2]
def ms (l : List M4) : List V := l.map vm
abbrev aM4 (m : M4) : A := aM m.1 m.2.1 m.2.2.1 m.2.2.2
@[simp] theorem ms_nil : ms [] = [] := rfl
@[simp] theorem ms_len (l : List M4) : (ms l).length = l.length := by simp [ms]
@[simp] theorem ms_get (l : List M4) (n : Nat) (K : V → Prop) : fA ((ms l)[n]?) K = ∀ m, l[n]? = some m → K (.ag [.int .i64 m.1, .int .i64 m.2.1, .int .i64 m.2.2.1, .int .i64 m.2.2.2]) := by unfold ms; exact fA_map
@[simp] theorem ms_app (l : List M4) (a b c d : Int) : ms l ++ [.ag [.int .i64 a, .int .i64 b, .int .i64 c, .int .i64 d]] = ms (l ++ [(a, b, c, d)]) := by simp [ms, vm]
@[simp] theorem ms_set (l : List M4) (n : Nat) (a b c d : Int) : (ms l).set n (.ag [.int .i64 a, .int .i64 b, .int .i64 c, .int .i64 d]) = ms (l.set n (a, b, c, d)) := by simp [ms, vm, List.map_set]
@[simp] theorem ms_take (l : List M4) (n : Nat) : (ms l).take n = ms (l.take n) := by simp [ms, List.map_take]
@[simp] theorem ms_drop (l : List M4) (n : Nat) : (ms l).drop n = ms (l.drop n) := by simp [ms, List.map_drop]
@[simp] theorem ms_flat (l : List M4) : (∀ x, x ∈ ms l → x.flat = true) ↔ True := by
  simp only [iff_true]
  intro x hx
  obtain ⟨y, _, rfl⟩ := List.mem_map.1 hx
  rfl
theorem vm_inj {m n : M4} (h : vm m = vm n) : m = n := by
  obtain ⟨a, b, c, d⟩ := m
  obtain ⟨a', b', c', d'⟩ := n
  simp only [vm, V.ag.injEq, List.cons.injEq, V.int.injEq, true_and, and_true] at h
  obtain ⟨rfl, rfl, rfl, rfl⟩ := h
  rfl
@[simp] theorem ms_inj (a b : List M4) : ms a = ms b ↔ a = b := by
  constructor
  · exact fun h => (List.map_inj_right (fun x y e => vm_inj e)).1 h
  · rintro rfl; rfl
abbrev vms (l : List M4) : V := .sl 4 (ms l)
def keptM (p : M4 → Bool) (l : List M4) (j : Nat) : List M4 := (l.take j).filter fun v => !p v
theorem keptM_succ {p : M4 → Bool} {l : List M4} {j : Nat} {x : M4} (hx : l[j]? = some x) : keptM p l (j + 1) = keptM p l j ++ if p x = true then [] else [x] := by
  unfold keptM
  rw [List.take_add_one, hx, List.filter_append]
  cases h : p x <;> simp [h]
theorem keptM_first {p : M4 → Bool} {l : List M4} (h : l.any p = true) : keptM p l (l.findIdx p + 1) = l.take (l.findIdx p) ∧ l.findIdx p < l.length := by
  have hlt : l.findIdx p < l.length := List.findIdx_lt_length.2 (by simpa using h)
  have hx := List.getElem?_eq_getElem hlt
  have hp : p l[l.findIdx p] = true := List.findIdx_getElem
  refine ⟨?_, hlt⟩
  rw [keptM_succ hx, if_pos hp, List.append_nil]
  unfold keptM
  rw [List.filter_eq_self]
  intro x hx
  obtain ⟨j, hj, rfl⟩ := List.mem_take_iff_getElem.1 hx
  have := List.not_of_lt_findIdx (p := p) (xs := l) (i := j) (by omega)
  simp [this]
end Go.Proofs.YtgkhakhkebjbpaaEv
namespace Go.Proofs.YtgkhakhkebjbpaaEv
open Go Go.Proofs
set_option maxRecDepth 10000
def normF (f x y : Int) : Int := x * x + f * x * y + y * y
theorem normF_bd {f x y : Int} (hf : 0 ≤ f ∧ f ≤ 1) (hx : x.natAbs ≤ 10000) (hy : y.natAbs ≤ 10000) : (x * x).natAbs ≤ 100000000 ∧ (f * x).natAbs ≤ 10000 ∧ (f * x * y).natAbs ≤ 100000000 ∧ (y * y).natAbs ≤ 100000000 ∧ (x * y).natAbs ≤ 100000000 := by
  have h1 := mul_bd hx hx
  have h2 := mul_bd (show f.natAbs ≤ 1 by omega) hx
  have h3 := mul_bd h2 hy
  have h4 := mul_bd hy hy
  have h5 := mul_bd hx hy
  exact ⟨by omega, by omega, by omega, by omega, by omega⟩
theorem s_snorm (f x y : Int) (hf : 0 ≤ f ∧ f ≤ 1) (hx : x.natAbs ≤ 10000) (hy : y.natAbs ≤ 10000) : Sp Try.prog 89 [vi f, aV x y] (vi (normF f x y)) [] := by
  refine sp_of (m := no) mixed Try.func89 k89 ?_
  obtain ⟨h1, h2, h3, h4, h5⟩ := normF_bd hf hx hy
  simp -dsimp [q]
  rw [w64 (n := x * x) (by omega) (by omega), w64 (n := y * y) (by omega) (by omega), w64 (n := x * y) (by omega) (by omega), w64 (n := x * x + y * y) (by omega) (by omega), w64 (by omega) (by omega)]
  unfold normF
  refine ⟨fun e => ?_, fun e => ?_⟩
  · subst e
    rw [Int.one_mul]
    omega
  · have : f = 0 := by omega
    subst this
    simp
def pmOk (f : Int) (m : M4) : Bool := decide (normF f m.1 m.2.2.1 = 1) && decide (normF f m.2.1 m.2.2.2 = 1) && decide (normF f (m.1 + m.2.1) (m.2.2.1 + m.2.2.2) = 2 + f)
theorem s_skeeps (f a b c d : Int) (hf : 0 ≤ f ∧ f ≤ 1) (hm : (a.natAbs ≤ 1000 ∧ b.natAbs ≤ 1000) ∧ c.natAbs ≤ 1000 ∧ d.natAbs ≤ 1000) : Sp Try.prog 83 [vi f, aM a b c d] (vb (pmOk f (a, b, c, d))) [] := by
  refine sp_of (m := no) mixed Try.func83 k83 ?_
  have w1 := s_snorm f a c hf (by omega) (by omega)
  have w2 := s_snorm f b d hf (by omega) (by omega)
  have w3 := s_snorm f (a + b) (c + d) hf (by omega) (by omega)
  simp -dsimp [q]
  refine ⟨by decide, ?_⟩
  refine call_of (w1) rfl (by simp) ?_
  try simp -dsimp
  try (first | exact fp_one (by decide) | refine fp_and (by decide) ?_)
  refine ⟨fun e1 => ?_, fun e1 => ?_⟩
  · refine call_of (w2) rfl (by simp) ?_
    try simp -dsimp
    try (first | exact fp_one (by decide) | refine fp_and (by decide) ?_)
    refine ⟨fun e2 => ?_, fun e2 => ?_⟩
    · refine call_of (s_sadd _ _ _ _ (by omega) (by omega) (by omega) (by omega)) rfl (by simp) ?_
      try simp -dsimp
      try (first | exact fp_one (by decide) | refine fp_and (by decide) ?_)
      refine call_of (w3) rfl (by simp) ?_
      try simp -dsimp
      try (first | exact fp_one (by decide) | refine fp_and (by decide) ?_)
      rw [w64 (by omega) (by omega)]
      simp only [pmOk, decide_eq_true e1, decide_eq_true e2, Bool.true_and]
    · simp only [pmOk, decide_eq_false e2, Bool.and_false, Bool.false_and]
  · simp only [pmOk, decide_eq_false e1, Bool.false_and]
def matOk (a b c d : Int) : Bool := okV a b && okV c d && (decide (a * d - b * c = 1) || decide (a * d - b * c = -1))
theorem matOk_small {a b c d : Int} (h : matOk a b c d = true) : (a.natAbs ≤ 1000 ∧ b.natAbs ≤ 1000) ∧ c.natAbs ≤ 1000 ∧ d.natAbs ≤ 1000 := by
  simp only [matOk, Bool.and_eq_true, okV_spec] at h
  omega
/-! all of a frame -/
def mat81 (k : Nat) : M4 := ((k : Int) / 27 - 1, (k : Int) / 9 % 3 - 1, (k : Int) / 3 % 3 - 1, (k : Int) % 3 - 1)
def pmL (f : Int) (n : Nat) : List M4 := ((List.range n).map mat81).filter fun m => pmOk f m
theorem pmL_succ (f : Int) (n : Nat) : pmL f (n + 1) = pmL f n ++ if pmOk f (mat81 n) = true then [mat81 n] else [] := by
  unfold pmL
  rw [List.range_succ, List.map_append, List.filter_append]
  cases h : pmOk f (mat81 n) <;> simp [h]
theorem pmL_len (f : Int) (n : Nat) : (pmL f n).length ≤ n := by
  unfold pmL
  exact Nat.le_trans (List.length_filter_le _ _) (by simp)
end Go.Proofs.YtgkhakhkebjbpaaEv
namespace Go.Proofs.YtgkhakhkebjbpaaEv
open Go Go.Proofs
set_option maxRecDepth 10000
def inL (a b c x y : Int) : Bool := decide (redX a b c x y = 0) && decide (y % c = 0)
def keepL (a b c : Int) (m : M4) : Bool := inL a b c (m.1 * a) (m.2.2.1 * a) && inL a b c (m.1 * b + m.2.1 * c) (m.2.2.1 * b + m.2.2.2 * c)
theorem pmL_small {f : Int} {n : Nat} (hn : n ≤ 81) {m : M4} (h : m ∈ pmL f n) : (m.1.natAbs ≤ 1 ∧ m.2.1.natAbs ≤ 1) ∧ m.2.2.1.natAbs ≤ 1 ∧ m.2.2.2.natAbs ≤ 1 := by
  unfold pmL at h
  obtain ⟨h1, _⟩ := List.mem_filter.1 h
  obtain ⟨k, hk, rfl⟩ := List.mem_map.1 h1
  have := List.mem_range.1 hk
  simp only [mat81]
  omega
end Go.Proofs.YtgkhakhkebjbpaaEv
namespace Go.Proofs.YtgkhakhkebjbpaaEv
open Go Go.Proofs
set_option maxRecDepth 10000
/-- Closed under adding multiples. -/
structure Sub (L : Int → Int → Prop) : Prop where
  z : L 0 0
  a : ∀ {x y u v : Int} (n : Int), L x y → L u v → L (x + n * u) (y + n * v)
theorem Sub.m {L : Int → Int → Prop} (s : Sub L) {x y : Int} (n : Int) (h : L x y) : L (n * x) (n * y) := by
  have := s.a n s.z h
  simpa using this
theorem Sub.s {L : Int → Int → Prop} (s : Sub L) {x y u v : Int} (n : Int) (h : L x y) (k : L u v) : L (x - n * u) (y - n * v) := by
  have := s.a (-n) h k
  rwa [Int.neg_mul, Int.neg_mul, ← Int.sub_eq_add_neg, ← Int.sub_eq_add_neg] at this
theorem sub_gcd {L : Int → Int → Prop} (s : Sub L) : ∀ (n : Nat) (a b : Int), b.natAbs ≤ n → L a 0 → L b 0 → L (Int.gcd a b : Int) 0
  | 0, a, b, hn, ha, hb => by
    have : b = 0 := by omega
    subst this
    rw [Int.gcd_zero_right]
    rcases Int.natAbs_eq a with h | h
    · rwa [← h]
    · have := s.m (-1) ha
      rw [show ((a.natAbs : Nat) : Int) = -1 * a by omega]
      simpa using this
  | n + 1, a, b, hn, ha, hb => by
    by_cases h0 : b = 0
    · exact sub_gcd s n a b (by omega) ha hb
    have h1 := tmod_abs a h0
    rw [← gcd_step]
    refine sub_gcd s n b _ (by omega) hb ?_
    have h2 := s.s (a.tdiv b) ha hb
    have h3 := Int.tmod_add_mul_tdiv a b
    rw [Int.mul_comm] at h3
    rw [show a.tmod b = a - a.tdiv b * b by omega]
    simpa using h2
theorem sub_of_gcd {L : Int → Int → Prop} (s : Sub L) {a b : Int} (h : L (Int.gcd a b : Int) 0) : L a 0 ∧ L b 0 := by
  obtain ⟨k, hk⟩ := Int.gcd_dvd_left (a := a) (b := b)
  obtain ⟨j, hj⟩ := Int.gcd_dvd_right (a := a) (b := b)
  constructor
  · have := s.m k h
    rw [Int.mul_comm, ← hk] at this
    simpa using this
  · have := s.m j h
    rw [Int.mul_comm, ← hj] at this
    simpa using this
theorem eu_row0 : ∀ (n : Nat) (h v : Int × Int), v.2.natAbs ≤ n → (eu n h v).2.2 = 0
  | 0, h, v, hn => by simp only [eu]; omega
  | n + 1, h, v, hn => by
    simp only [eu]
    by_cases hv : v.2 = 0
    · rw [if_pos hv]; exact hv
    · rw [if_neg hv]
      have := tmod_abs h.2 hv
      exact eu_row0 n _ _ (by simp only; omega)
theorem sub_eu {L : Int → Int → Prop} (s : Sub L) : ∀ (n : Nat) (h v : Int × Int), (L (eu n h v).1.1 (eu n h v).1.2 ∧ L (eu n h v).2.1 (eu n h v).2.2) ↔ (L h.1 h.2 ∧ L v.1 v.2)
  | 0, h, v => by simp [eu]
  | n + 1, h, v => by
    simp only [eu]
    by_cases hv : v.2 = 0
    · rw [if_pos hv]
    · rw [if_neg hv, sub_eu s n]
      have h3 := Int.tmod_add_mul_tdiv h.2 v.2
      rw [Int.mul_comm] at h3
      have e : h.2.tmod v.2 = h.2 - h.2.tdiv v.2 * v.2 := by omega
      simp only [e]
      constructor
      · rintro ⟨h1, h2⟩
        refine ⟨?_, h1⟩
        have := s.a (h.2.tdiv v.2) h2 h1
        rwa [Int.sub_add_cancel, Int.sub_add_cancel] at this
      · rintro ⟨h1, h2⟩
        exact ⟨h2, s.s _ h1 h2⟩
theorem sub_lstep {L : Int → Int → Prop} (s : Sub L) (t : Int × Int × Int) (v : Int × Int) : (L (lstep t v).1 0 ∧ L (lstep t v).2.1 (lstep t v).2.2) ↔ ((L t.1 0 ∧ L t.2.1 t.2.2) ∧ L v.1 v.2) := by
  have e1 := sub_eu s v.2.natAbs t.2 v
  have e2 := eu_row0 v.2.natAbs t.2 v (Nat.le_refl _)
  rw [e2] at e1
  simp only [lstep]
  constructor
  · rintro ⟨h1, h2⟩
    obtain ⟨h3, h4⟩ := sub_of_gcd s h1
    have := e1.1 ⟨h2, h4⟩
    exact ⟨⟨h3, this.1⟩, this.2⟩
  · rintro ⟨⟨h1, h2⟩, h3⟩
    have := e1.2 ⟨h2, h3⟩
    exact ⟨sub_gcd s _ _ _ (Nat.le_refl _) h1 this.2, this.1⟩
theorem sub_lstepS {L : Int → Int → Prop} (s : Sub L) (t : Int × Int × Int) (v : Int × Int) : (L (lstepS t v).1 0 ∧ L (lstepS t v).2.1 (lstepS t v).2.2) ↔ ((L t.1 0 ∧ L t.2.1 t.2.2) ∧ L v.1 v.2) := by
  rw [← sub_lstep s]
  simp only [lstep, lstepS]
  generalize (Int.gcd t.1 (eu v.2.natAbs t.2 v).2.1 : Int) = g
  generalize (eu v.2.natAbs t.2 v).1 = h
  refine and_congr_right fun hg => ?_
  split
  · have e := Int.emod_add_mul_ediv h.1 g
    rw [Int.mul_comm] at e
    constructor
    · intro h1
      have := s.a (h.1 / g) h1 hg
      rw [e] at this
      simpa using this
    · intro h1
      have := s.s (h.1 / g) h1 hg
      rw [show h.1 % g = h.1 - h.1 / g * g by omega]
      simpa using this
  · exact Iff.rfl
theorem sub_foldl {L : Int → Int → Prop} {st : Int × Int × Int → Int × Int → Int × Int × Int} (hst : ∀ t v, (L (st t v).1 0 ∧ L (st t v).2.1 (st t v).2.2) ↔ ((L t.1 0 ∧ L t.2.1 t.2.2) ∧ L v.1 v.2)) : ∀ (l : List (Int × Int)) (t : Int × Int × Int), (L (l.foldl st t).1 0 ∧ L (l.foldl st t).2.1 (l.foldl st t).2.2) ↔ ((L t.1 0 ∧ L t.2.1 t.2.2) ∧ ∀ v ∈ l, L v.1 v.2)
  | [], t => by simp
  | v :: l, t => by
    rw [List.foldl_cons, sub_foldl hst l, hst]
    simp only [List.mem_cons, forall_eq_or_imp, and_assoc]
theorem sub_lfold {L : Int → Int → Prop} (s : Sub L) (l : List (Int × Int)) : (L (lfold l).1 0 ∧ L (lfold l).2.1 (lfold l).2.2) ↔ ∀ v ∈ l, L v.1 v.2 := by
  rw [lfold, sub_foldl (sub_lstep s)]
  simp [s.z]
theorem sub_lfoldS {L : Int → Int → Prop} (s : Sub L) (l : List (Int × Int)) : (L (lfoldS l).1 0 ∧ L (lfoldS l).2.1 (lfoldS l).2.2) ↔ ∀ v ∈ l, L v.1 v.2 := by
  rw [lfoldS, sub_foldl (sub_lstepS s)]
  simp [s.z]
theorem sub_lfin {L : Int → Int → Prop} (s : Sub L) (t : Int × Int × Int) : (L (lfin t).1 0 ∧ L (lfin t).2.1 (lfin t).2.2) ↔ (L t.1 0 ∧ L t.2.1 t.2.2) := by
  simp only [lfin]
  refine and_congr_right fun hg => ?_
  have key : ∀ x y : Int, L (x % t.1) y ↔ L x y := fun x y => by
    have e := Int.emod_add_mul_ediv x t.1
    rw [Int.mul_comm] at e
    constructor
    · intro h1
      have := s.a (x / t.1) h1 hg
      rw [e] at this
      simpa using this
    · intro h1
      have := s.s (x / t.1) h1 hg
      rw [show x % t.1 = x - x / t.1 * t.1 by omega]
      simpa using this
  split
  · rw [key]
    constructor
    · intro h
      have := s.m (-1) h
      simpa using this
    · intro h
      have := s.m (-1) h
      simpa using this
  · rw [key]
def spn (a b c x y : Int) : Prop := ∃ i j : Int, x = i * a + j * b ∧ y = j * c
theorem spn_sub (a b c : Int) : Sub (spn a b c) where
  z := ⟨0, 0, by simp, by simp⟩
  a := by
    rintro x y u v n ⟨i, j, rfl, rfl⟩ ⟨k, l, rfl, rfl⟩
    refine ⟨i + n * k, j + n * l, ?_, ?_⟩
    · simp only [Int.add_mul, Int.mul_add, Int.mul_assoc]; omega
    · simp only [Int.add_mul, Int.mul_assoc]
theorem spn_l (a b c : Int) : spn a b c a 0 := ⟨1, 0, by simp, by simp⟩
theorem spn_r (a b c : Int) : spn a b c b c := ⟨0, 1, by simp, by simp⟩
theorem spn_det {a b c x y u v : Int} (h1 : spn a b c x y) (h2 : spn a b c u v) : a * c ∣ x * v - y * u := by
  obtain ⟨i, j, rfl, rfl⟩ := h1
  obtain ⟨k, l, rfl, rfl⟩ := h2
  refine ⟨i * l - j * k, ?_⟩
  simp only [Int.mul_sub, Int.add_mul, Int.mul_add]
  have e1 : i * a * (l * c) = a * c * (i * l) := by ac_rfl
  have e2 : j * b * (l * c) = j * c * (l * b) := by ac_rfl
  have e3 : j * c * (k * a) = a * c * (j * k) := by ac_rfl
  rw [e1, e2, e3]
  omega
theorem spn_uniq {a b c A B C : Int} (ha : 0 < a) (hb : 0 ≤ b ∧ b < a) (hc : 0 < c) (hA : 0 < A) (hB : 0 ≤ B ∧ B < A) (hC : 0 < C) (h1 : spn A B C a 0) (h2 : spn A B C b c) (h3 : spn a b c A 0) (h4 : spn a b c B C) : (a, b, c) = (A, B, C) := by
  obtain ⟨i1, j1, e1, f1⟩ := h1
  obtain ⟨i2, j2, e2, f2⟩ := h2
  obtain ⟨i3, j3, e3, f3⟩ := h3
  obtain ⟨i4, j4, e4, f4⟩ := h4
  have j1z : j1 = 0 := by
    rcases Int.mul_eq_zero.1 f1.symm with h | h <;> omega
  have j3z : j3 = 0 := by
    rcases Int.mul_eq_zero.1 f3.symm with h | h <;> omega
  subst j1z j3z
  simp only [Int.zero_mul, Int.add_zero] at e1 e3
  have eA : A = a := Int.le_antisymm (Int.le_of_dvd ha ⟨i1, by rw [Int.mul_comm]; exact e1⟩) (Int.le_of_dvd hA ⟨i3, by rw [Int.mul_comm]; exact e3⟩)
  have eC : C = c := Int.le_antisymm (Int.le_of_dvd hc ⟨j2, by rw [Int.mul_comm]; exact f2⟩) (Int.le_of_dvd hC ⟨j4, by rw [Int.mul_comm]; exact f4⟩)
  subst eA eC
  have : j2 = 1 := by
    have : (j2 - 1) * C = 0 := by rw [Int.sub_mul, Int.one_mul]; omega
    rcases Int.mul_eq_zero.1 this with h | h <;> omega
  subst this
  rw [Int.one_mul] at e2
  have : b % A = B % A := by rw [e2, Int.add_comm, Int.add_mul_emod_self_right]
  rw [Int.emod_eq_of_lt hb.1 hb.2, Int.emod_eq_of_lt hB.1 hB.2] at this
  rw [this]
end Go.Proofs.YtgkhakhkebjbpaaEv
namespace Go.Proofs.YtgkhakhkebjbpaaEv
open Go Go.Proofs
set_option maxRecDepth 10000
theorem inL_iff {a b c x y : Int} : inL a b c x y = true ↔ (x - y / c * b) % a = 0 ∧ y % c = 0 := by
  unfold inL
  rw [Bool.and_eq_true, decide_eq_true_iff, decide_eq_true_iff]
  exact Iff.rfl
theorem inL_spn {a b c x y : Int} (hc : 1 ≤ c) : inL a b c x y = true ↔ spn a b c x y := by
  rw [inL_iff]
  constructor
  · rintro ⟨h1, h2⟩
    have e1 := Int.emod_add_mul_ediv (x - y / c * b) a
    have e2 := Int.emod_add_mul_ediv y c
    refine ⟨(x - y / c * b) / a, y / c, ?_, ?_⟩
    · rw [h1, Int.mul_comm] at e1; omega
    · rw [h2, Int.mul_comm] at e2; omega
  · rintro ⟨i, j, rfl, rfl⟩
    rw [Int.mul_ediv_cancel _ (show c ≠ 0 by omega)]
    refine ⟨?_, Int.mul_emod_left _ _⟩
    rw [Int.add_sub_cancel]
    exact Int.mul_emod_left _ _
theorem lfS_one (x y : Int) : lfoldS [(x, y)] = if y = 0 then ((x.natAbs : Int), 0, 0) else (0, x, y) := by
  simp only [lfoldS, List.foldl_cons, List.foldl_nil, lstepS]
  by_cases hy : y = 0
  · subst hy
    simp [eu]
  · have h := eu_step (h := (0, 0)) (v := (x, y)) hy
    simp only at h
    rw [if_neg hy, h]
    simp [eu]
theorem lfS_g (l : List (Int × Int)) (v : Int × Int) : 0 ≤ (lfoldS (l ++ [v])).1 ∧ (0 < (lfoldS (l ++ [v])).1 → 0 ≤ (lfoldS (l ++ [v])).2.1 ∧ (lfoldS (l ++ [v])).2.1 < (lfoldS (l ++ [v])).1) := by
  rw [lfoldS_snoc]
  simp only [lstepS]
  refine ⟨by omega, fun h => ?_⟩
  rw [if_pos h]
  exact ⟨Int.emod_nonneg _ (by omega), Int.emod_lt_of_pos _ h⟩
structure Two (x y u w : Int) : Prop where
  h : 0 < (lfoldS [(x, y), (u, w)]).1
  r : 0 ≤ (lfoldS [(x, y), (u, w)]).2.1 ∧ (lfoldS [(x, y), (u, w)]).2.1 < (lfoldS [(x, y), (u, w)]).1
  k : (lfoldS [(x, y), (u, w)]).2.2 ≠ 0
  d : (lfoldS [(x, y), (u, w)]).1 * (lfoldS [(x, y), (u, w)]).2.2 ∣ x * w - y * u
  s : lsmallS [(x, y), (u, w)]
theorem dvd_bd {a b : Int} {D : Nat} (h : a ∣ b) (h0 : b ≠ 0) (hb : b.natAbs ≤ D) : a.natAbs ≤ D := by
  have := Int.natAbs_dvd_natAbs.2 h
  exact Nat.le_trans (Nat.le_of_dvd (by omega) this) hb
theorem takeTwo {α : Type} (x y : α) (P : List α → Prop) (h0 : P []) (h1 : P [x]) (h2 : P [x, y]) : ∀ k, P (([x, y] : List α).take k)
  | 0 => h0
  | 1 => h1
  | k + 2 => by simpa using h2
theorem two {x y u w : Int} (hx : x.natAbs ≤ 1000) (hy : y.natAbs ≤ 1000) (hu : u.natAbs ≤ 1000) (hw : w.natAbs ≤ 1000) (hd : x * w - y * u ≠ 0) (hD : (x * w - y * u).natAbs ≤ 1000000) : Two x y u w := by
  have g := lfS_g [(x, y)] (u, w)
  have sp := (sub_lfoldS (spn_sub (lfoldS [(x, y), (u, w)]).1 (lfoldS [(x, y), (u, w)]).2.1 (lfoldS [(x, y), (u, w)]).2.2) [(x, y), (u, w)]).1 ⟨spn_l _ _ _, spn_r _ _ _⟩
  have s1 := sp (x, y) (by simp)
  have s2 := sp (u, w) (by simp)
  have dv := spn_det s1 s2
  have e1 := lfS_one x y
  rw [List.singleton_append] at g
  have e2 : smallV 1000000 (lfoldS [(x, y)]).2 ∧ (lfoldS [(x, y)]).1.natAbs ≤ 1000000 := by
    rw [e1]
    split
    · exact ⟨⟨by simp, by simp⟩, by simp only; omega⟩
    · exact ⟨⟨by simp only; omega, by simp only; omega⟩, by simp⟩
  have hv : ∀ v ∈ ([(x, y), (u, w)] : List (Int × Int)), smallV 1000000 v := by
    intro v hv
    simp only [List.mem_cons, List.not_mem_nil, or_false] at hv
    rcases hv with rfl | rfl <;> exact ⟨by simp only; omega, by simp only; omega⟩
  have gz : (lfoldS [(x, y), (u, w)]).1 ≠ 0 := fun e => by rw [e, Int.zero_mul, Int.zero_dvd] at dv; exact hd dv
  have kz : (lfoldS [(x, y), (u, w)]).2.2 ≠ 0 := fun e => by rw [e, Int.mul_zero, Int.zero_dvd] at dv; exact hd dv
  have d1 := dvd_bd (Int.dvd_trans (Int.dvd_mul_right _ _) dv) hd hD
  have d2 := dvd_bd (Int.dvd_trans (Int.dvd_mul_left _ _) dv) hd hD
  have gp : 0 < (lfoldS [(x, y), (u, w)]).1 := by omega
  have gr := g.2 gp
  refine ⟨gp, gr, kz, dv, hv, takeTwo _ _ (fun l => smallV 1000000 (lfoldS l).2 ∧ (lfoldS l).1.natAbs ≤ 1000000) ?_ e2 ?_⟩
  · exact ⟨⟨by decide, by decide⟩, by decide⟩
  · exact ⟨⟨by omega, d2⟩, d1⟩
theorem image_eq {a b c x y u w : Int} (ha : 1 ≤ a) (hb : 0 ≤ b ∧ b < a) (hc : 1 ≤ c) (t : Two x y u w) (hd : x * w - y * u = a * c ∨ x * w - y * u = -(a * c)) : lfin (lfoldS [(x, y), (u, w)]) = (a, b, c) ↔ (spn a b c x y ∧ spn a b c u w) := by
  have e := (sub_lfin (spn_sub a b c) (lfoldS [(x, y), (u, w)])).trans (sub_lfoldS (spn_sub a b c) [(x, y), (u, w)])
  simp only [List.mem_cons, List.not_mem_nil, or_false, forall_eq_or_imp, forall_eq] at e
  rw [← e]
  obtain ⟨t1, t2, t3, t4, _⟩ := t
  have f1 : (lfin (lfoldS [(x, y), (u, w)])).1 = (lfoldS [(x, y), (u, w)]).1 := rfl
  have f2 : 0 ≤ (lfin (lfoldS [(x, y), (u, w)])).2.1 ∧ (lfin (lfoldS [(x, y), (u, w)])).2.1 < (lfoldS [(x, y), (u, w)]).1 := ⟨Int.emod_nonneg _ (by omega), Int.emod_lt_of_pos _ t1⟩
  have f3 : 0 < (lfin (lfoldS [(x, y), (u, w)])).2.2 := by
    simp only [lfin]
    split <;> omega
  have f4 : (lfin (lfoldS [(x, y), (u, w)])).1 * (lfin (lfoldS [(x, y), (u, w)])).2.2 ∣ a * c := by
    have : (lfoldS [(x, y), (u, w)]).1 * (lfoldS [(x, y), (u, w)]).2.2 ∣ a * c := by
      rcases hd with h | h
      · rwa [h] at t4
      · rw [h] at t4; exact Int.dvd_neg.1 t4
    simp only [lfin]
    split
    · rw [Int.mul_neg]; exact Int.neg_dvd.2 this
    · exact this
  rw [← f1] at f2 t1
  generalize lfin (lfoldS [(x, y), (u, w)]) = r at *
  obtain ⟨A, B, C⟩ := r
  simp only at *
  constructor
  · intro h
    cases h
    exact ⟨spn_l _ _ _, spn_r _ _ _⟩
  · rintro ⟨⟨i3, j3, e3, g3⟩, ⟨i4, j4, e4, g4⟩⟩
    have j3z : j3 = 0 := by rcases Int.mul_eq_zero.1 g3.symm with h | h <;> omega
    subst j3z
    simp only [Int.zero_mul, Int.add_zero] at e3
    obtain ⟨n, hn⟩ := f4
    have hp : 0 < a * c := Int.mul_pos (by omega) (by omega)
    have h1 : a * c * (i3 * j4 * n - 1) = 0 := by subst e3 g4; grind
    have h2 : i3 * j4 * n = 1 := by rcases Int.mul_eq_zero.1 h1 with h | h <;> omega
    have i3p : 0 < i3 := by
      rcases Int.lt_trichotomy i3 0 with h | h | h
      · have := Int.mul_neg_of_neg_of_pos h (show 0 < a by omega); omega
      · subst h; simp at e3; omega
      · exact h
    have j4p : 0 < j4 := by
      rcases Int.lt_trichotomy j4 0 with h | h | h
      · have := Int.mul_neg_of_neg_of_pos h (show 0 < c by omega); omega
      · subst h; simp at g4; omega
      · exact h
    have q1 : i3 = 1 := by
      have := Int.le_of_dvd (by decide) (show i3 ∣ 1 from ⟨j4 * n, by rw [← h2, Int.mul_assoc]⟩)
      omega
    have q2 : j4 = 1 := by
      have := Int.le_of_dvd (by decide) (show j4 ∣ 1 from ⟨i3 * n, by rw [← h2]; ac_rfl⟩)
      omega
    subst q1 q2
    simp only [Int.one_mul] at e3 e4 g4
    subst e3 g4
    have : B % A = b % A := by rw [e4, Int.add_comm, Int.add_mul_emod_self_right]
    rw [Int.emod_eq_of_lt hb.1 hb.2, Int.emod_eq_of_lt f2.1 f2.2] at this
    rw [this]
/-! point matrices -/
theorem sq_le {x : Int} {n : Nat} (h : x * x ≤ n) : x.natAbs ≤ n := by
  have h1 : (x * x).natAbs = x.natAbs * x.natAbs := Int.natAbs_mul _ _
  have h0 : 0 ≤ x * x := by rcases Int.le_total 0 x with h | h; exact Int.mul_nonneg h h; exact Int.mul_nonneg_of_nonpos_of_nonpos h h
  rcases Nat.eq_zero_or_pos x.natAbs with h2 | h2
  · omega
  · have := Nat.le_mul_of_pos_right x.natAbs h2
    omega
theorem norm_one {f x y : Int} (hf : 0 ≤ f ∧ f ≤ 1) (h : normF f x y = 1) : x.natAbs ≤ 1 ∧ y.natAbs ≤ 1 := by
  unfold normF at h
  have hsq : ∀ z : Int, 0 ≤ z * z := fun z => by rcases Int.le_total 0 z with h | h; exact Int.mul_nonneg h h; exact Int.mul_nonneg_of_nonpos_of_nonpos h h
  rcases (by omega : f = 0 ∨ f = 1) with rfl | rfl
  · have := hsq x; have := hsq y
    rw [Int.zero_mul, Int.zero_mul] at h
    exact ⟨sq_le (by omega), sq_le (by omega)⟩
  · rw [Int.one_mul] at h
    have e1 := hsq (2 * x + y)
    have e2 := hsq (x + 2 * y)
    have e3 : (2 * x + y) * (2 * x + y) + 3 * (y * y) = 4 := by grind
    have e4 : (x + 2 * y) * (x + 2 * y) + 3 * (x * x) = 4 := by grind
    exact ⟨sq_le (by omega), sq_le (by omega)⟩
theorem one_cases {x : Int} (h : x.natAbs ≤ 1) : x = -1 ∨ x = 0 ∨ x = 1 := by omega
theorem pmL_mem {f : Int} (hf : 0 ≤ f ∧ f ≤ 1) (a b c d : Int) : (a, b, c, d) ∈ pmL f 81 ↔ pmOk f (a, b, c, d) = true := by
  constructor
  · intro h
    unfold pmL at h
    exact (List.mem_filter.1 h).2
  · intro h
    unfold pmL
    refine List.mem_filter.2 ⟨?_, h⟩
    simp only [pmOk, Bool.and_eq_true, decide_eq_true_eq] at h
    obtain ⟨h1, h2⟩ := norm_one hf h.1.1
    obtain ⟨h3, h4⟩ := norm_one hf h.1.2
    refine List.mem_map.2 ⟨((a + 1) * 27 + (b + 1) * 9 + (c + 1) * 3 + (d + 1)).toNat, List.mem_range.2 (by omega), ?_⟩
    simp only [mat81, Prod.mk.injEq]
    omega
theorem pm_facts {f a b c d : Int} (hf : 0 ≤ f ∧ f ≤ 1) (h : pmOk f (a, b, c, d) = true) : (a.natAbs ≤ 1 ∧ b.natAbs ≤ 1) ∧ (c.natAbs ≤ 1 ∧ d.natAbs ≤ 1) ∧ (a * d - b * c = 1 ∨ a * d - b * c = -1) := by
  have h' := h
  simp only [pmOk, Bool.and_eq_true, decide_eq_true_eq] at h
  obtain ⟨h1, h2⟩ := norm_one hf h.1.1
  obtain ⟨h3, h4⟩ := norm_one hf h.1.2
  refine ⟨⟨h1, h3⟩, ⟨h2, h4⟩, ?_⟩
  rcases (by omega : f = 0 ∨ f = 1) with rfl | rfl <;> rcases one_cases h1 with rfl | rfl | rfl <;> rcases one_cases h2 with rfl | rfl | rfl <;> rcases one_cases h3 with rfl | rfl | rfl <;> rcases one_cases h4 with rfl | rfl | rfl <;> first | decide | (exfalso; revert h'; decide)
theorem pm_mat {f a b c d : Int} (hf : 0 ≤ f ∧ f ≤ 1) (h : pmOk f (a, b, c, d) = true) : matOk a b c d = true := by
  obtain ⟨⟨h1, h2⟩, ⟨h3, h4⟩, h5⟩ := pm_facts hf h
  have e1 : okV a b = true := okV_spec.2 (by omega)
  have e2 : okV c d = true := okV_spec.2 (by omega)
  simp only [matOk, e1, e2, Bool.true_and, Bool.or_eq_true, decide_eq_true_eq]
  exact h5
end Go.Proofs.YtgkhakhkebjbpaaEv
namespace Go.Proofs.YtgkhakhkebjbpaaEv
open Go Go.Proofs
set_option maxRecDepth 10000
def suit (f a b c p q' r s t u : Int) : Bool := pmOk f (p, q', r, s) && keepL a b c (p, q', r, s) && okV t u
theorem s_simage (a b c p q' r s : Int) (h : okL a b c = true) (hm : (p.natAbs ≤ 1 ∧ q'.natAbs ≤ 1) ∧ (r.natAbs ≤ 1 ∧ s.natAbs ≤ 1) ∧ (p * s - q' * r = 1 ∨ p * s - q' * r = -1)) : ∃ A B C, ((A, B, C) = (a, b, c) ↔ keepL a b c (p, q', r, s) = true) ∧ Sp Try.prog 78 [aM p q' r s, aL a b c] (aL A B C) [] := by
  obtain ⟨ha, hc, hb, hac⟩ := okL_spec.1 h
  obtain ⟨⟨m1, m2⟩, ⟨m3, m4⟩, hd⟩ := hm
  have h1 := mul_bd m1 (show a.natAbs ≤ 64 by omega)
  have h2 := mul_bd m3 (show a.natAbs ≤ 64 by omega)
  have h3 := mul_bd m1 (show b.natAbs ≤ 64 by omega)
  have h4 := mul_bd m2 (show c.natAbs ≤ 64 by omega)
  have h5 := mul_bd m3 (show b.natAbs ≤ 64 by omega)
  have h6 := mul_bd m4 (show c.natAbs ≤ 64 by omega)
  have hdet : p * a * (r * b + s * c) - r * a * (p * b + q' * c) = a * c ∨ p * a * (r * b + s * c) - r * a * (p * b + q' * c) = -(a * c) := by
    have e : p * a * (r * b + s * c) - r * a * (p * b + q' * c) = a * c * (p * s - q' * r) := by grind
    rw [e]
    rcases hd with e | e
    · left; rw [e, Int.mul_one]
    · right; rw [e, Int.mul_neg, Int.mul_one]
  have hp : 0 < a * c := Int.mul_pos (by omega) (by omega)
  have t := two (x := p * a) (y := r * a) (u := p * b + q' * c) (w := r * b + s * c) (by omega) (by omega) (by omega) (by omega) (by omega) (by omega)
  have w := s_hermite [(p * a, r * a), (p * b + q' * c, r * b + s * c)] (by simp) t.s t.h
  have e := image_eq (a := a) (b := b) (c := c) (by omega) hb (by omega) t hdet
  rw [← inL_spn (by omega), ← inL_spn (by omega), ← Bool.and_eq_true] at e
  generalize lfin (lfoldS [(p * a, r * a), (p * b + q' * c, r * b + s * c)]) = R at w e
  obtain ⟨A, B, C⟩ := R
  refine ⟨A, B, C, e, ?_⟩
  refine sp_of (m := no) mixed Try.func78 k78 ?_
  simp -dsimp [q]
  refine call_of ((s_sbasis a b c : Sp Try.prog 84 [aL a b c] (.v (.sl 2 [.ag [.int .i64 a, .int .i64 0], .ag [.int .i64 b, .int .i64 c]])) [])) rfl (by simp) ?_
  try simp -dsimp
  try (first | exact fp_one (by decide) | refine fp_and (by decide) ?_)
  refine call_of (s_sapply p q' r s a 0 ⟨⟨by omega, by omega⟩, by omega, by omega⟩ ⟨by omega, by omega⟩) rfl (by simp) ?_
  try simp -dsimp
  try (first | exact fp_one (by decide) | refine fp_and (by decide) ?_)
  refine call_of (s_sapply p q' r s b c ⟨⟨by omega, by omega⟩, by omega, by omega⟩ ⟨by omega, by omega⟩) rfl (by simp) ?_
  try simp -dsimp
  try (first | exact fp_one (by decide) | refine fp_and (by decide) ?_)
  refine call_of (w) rfl (by simp) ?_
  try simp -dsimp
  try (first | exact fp_one (by decide) | refine fp_and (by decide) ?_)
end Go.Proofs.YtgkhakhkebjbpaaEv
namespace Go.Proofs.YtgkhakhkebjbpaaEv
open Go Go.Proofs
set_option maxRecDepth 10000
abbrev vvs' (l : List (Int × Int)) : V := .sl 2 (vs l)
def mkV (k : Int) (n : Nat) : List (Int × Int) := (List.range n).map fun i : Nat => (k + 2 * i, k + 2 * i + 1)
/-! marks on patterns -/
abbrev zP' : A := .ag [vi 0, vi 0, vi 0, vi 0, .nil 0]
end Go.Proofs.YtgkhakhkebjbpaaEv
namespace Go.Proofs.YtgkhakhkebjbpaaEv
open Go Go.Proofs
set_option maxRecDepth 10000
abbrev G6 := M4 × Int × Int
def vg (g : G6) : V := .ag [.int .i64 g.1.1, .int .i64 g.1.2.1, .int .i64 g.1.2.2.1, .int .i64 g.1.2.2.2, .int .i64 g.2.1, .int .i64 g.2.2]
def gs (l : List G6) : List V := l.map vg
abbrev aG6 (g : G6) : A := aG g.1.1 g.1.2.1 g.1.2.2.1 g.1.2.2.2 g.2.1 g.2.2
def smallG (g : G6) : Prop := (g.1.1.natAbs ≤ 1000 ∧ g.1.2.1.natAbs ≤ 1000) ∧ (g.1.2.2.1.natAbs ≤ 1000 ∧ g.1.2.2.2.natAbs ≤ 1000) ∧ g.2.1.natAbs ≤ 1000 ∧ g.2.2.natAbs ≤ 1000
def mvV (a b c : Int) (g : G6) (v : Int × Int) : Int × Int := (redX a b c (g.1.1 * v.1 + g.1.2.1 * v.2 + g.2.1) (g.1.2.2.1 * v.1 + g.1.2.2.2 * v.2 + g.2.2), (g.1.2.2.1 * v.1 + g.1.2.2.2 * v.2 + g.2.2) % c)
theorem s_smove (a b c : Int) (g : G6) (x y : Int) (hg : smallG g) (ha : 1 ≤ a ∧ a ≤ 64) (hb : 0 ≤ b ∧ b < a) (hc : 1 ≤ c ∧ c ≤ 64) (hx : x.natAbs ≤ 1000 ∧ y.natAbs ≤ 1000) : Sp Try.prog 88 [aL a b c, aG6 g, aV x y] (aV (mvV a b c g (x, y)).1 (mvV a b c g (x, y)).2) [] := by
  refine sp_of (m := no) mixed Try.func88 k88 ?_
  obtain ⟨g1, g2, g3⟩ := hg
  have h1 := mul_bd g1.1 hx.1
  have h2 := mul_bd g1.2 hx.2
  have h3 := mul_bd g2.1 hx.1
  have h4 := mul_bd g2.2 hx.2
  simp -dsimp [q]
  refine call_of (s_sgapply _ _ _ _ _ _ x y ⟨g1, g2⟩ ⟨by omega, by omega⟩ ⟨by omega, by omega⟩) rfl (by simp) ?_
  try simp -dsimp
  try (first | exact fp_one (by decide) | refine fp_and (by decide) ?_)
  refine call_of (s_sreduce a b c _ _ ha hb hc (by omega) (by omega)) rfl (by simp) ?_
  try simp -dsimp
  try (first | exact fp_one (by decide) | refine fp_and (by decide) ?_)
  exact ⟨rfl, rfl⟩
def suitG (f a b c : Int) (g : G6) : Bool := suit f a b c g.1.1 g.1.2.1 g.1.2.2.1 g.1.2.2.2 g.2.1 g.2.2
theorem suit_small {f a b c : Int} (hf : 0 ≤ f ∧ f ≤ 1) {g : G6} (h : suitG f a b c g = true) : smallG g ∧ (g.1.1.natAbs ≤ 1 ∧ g.1.2.1.natAbs ≤ 1) ∧ (g.1.2.2.1.natAbs ≤ 1 ∧ g.1.2.2.2.natAbs ≤ 1) := by
  simp only [suitG, suit, Bool.and_eq_true] at h
  obtain ⟨h1, h2, _⟩ := pm_facts hf h.1.1
  have h3 := okV_spec.1 h.2
  exact ⟨⟨⟨by omega, by omega⟩, ⟨by omega, by omega⟩, by omega, by omega⟩, h1, h2⟩
def fixN (a b c : Int) (g : G6) (l : List (Int × Int)) : Nat := l.countP fun v => decide (mvV a b c g v = v)
theorem fixN_succ {a b c : Int} {g : G6} {l : List (Int × Int)} {i : Nat} {v : Int × Int} (h : l[i]? = some v) : fixN a b c g (l.take (i + 1)) = fixN a b c g (l.take i) + if mvV a b c g v = v then 1 else 0 := by
  unfold fixN
  rw [List.take_add_one, h, List.countP_append]
  simp [List.countP_cons]
end Go.Proofs.YtgkhakhkebjbpaaEv
namespace Go.Proofs.YtgkhakhkebjbpaaEv
open Go Go.Proofs
set_option maxRecDepth 10000
theorem mget_enc {α : Type} [DecidableEq α] (enc : α → V) (hi : ∀ x y, enc x = enc y → x = y) (S : List α) (x : α) : mget (enc x) (S.map fun y => (enc y, V.bool true)) = if x ∈ S then some (.bool true) else none := by
  induction S with
  | nil => rfl
  | cons y S ih =>
    simp only [List.map_cons, mget]
    by_cases h : enc y = enc x
    · rw [if_pos (by rw [cdec_true]; exact h), if_pos (by rw [hi _ _ h]; simp)]
    · rw [if_neg (by rw [cdec_true]; exact h), ih]
      have : x ≠ y := fun e => h (by rw [e])
      simp [this]
theorem mput_enc {α : Type} [DecidableEq α] (enc : α → V) (hi : ∀ x y, enc x = enc y → x = y) (S : List α) (x : α) : mput (enc x) (.bool true) (S.map fun y => (enc y, V.bool true)) = (if x ∈ S then S else S ++ [x]).map fun y => (enc y, V.bool true) := by
  induction S with
  | nil => rfl
  | cons y S ih =>
    simp only [List.map_cons, mput]
    by_cases h : enc y = enc x
    · rw [if_pos (by rw [cdec_true]; exact h), if_pos (by rw [hi _ _ h]; simp), List.map_cons, h]
    · rw [if_neg (by rw [cdec_true]; exact h), ih]
      have : x ≠ y := fun e => h (by rw [e])
      by_cases hx : x ∈ S <;> simp [this, hx]
def sE (S : List (Int × Int)) : List (V × V) := S.map fun y => (vv y, V.bool true)
theorem vv_inj (x y : Int × Int) (h : vv x = vv y) : x = y := by
  obtain ⟨a, b⟩ := x
  obtain ⟨c, d⟩ := y
  simp only [vv, V.ag.injEq, List.cons.injEq, V.int.injEq, true_and, and_true] at h
  rw [h.1, h.2]
@[simp] theorem sE_nil : sE [] = [] := rfl
@[simp] theorem sE_len (S : List (Int × Int)) : (sE S).length = S.length := by simp [sE]
@[simp] theorem sE_get (S : List (Int × Int)) (x y : Int) : lkA (.bool false) false (mget (.ag [.int .i64 x, .int .i64 y]) (sE S)) = .v (.bool (decide ((x, y) ∈ S))) := by
  have := mget_enc vv vv_inj S (x, y)
  rw [show V.ag [.int .i64 x, .int .i64 y] = vv (x, y) from rfl, sE, this]
  by_cases h : (x, y) ∈ S <;> simp [h, lkA]
@[simp] theorem sE_put (S : List (Int × Int)) (x y : Int) : mput (.ag [.int .i64 x, .int .i64 y]) (.bool true) (sE S) = sE (if (x, y) ∈ S then S else S ++ [(x, y)]) := by
  have := mput_enc vv vv_inj S (x, y)
  rw [show V.ag [.int .i64 x, .int .i64 y] = vv (x, y) from rfl, sE, this, sE]
  by_cases h : (x, y) ∈ S <;> simp [h]
@[simp] theorem sE_keyed (S : List (Int × Int)) (x y : Int) : keyed 2 [1, 1] (.ag [.int .i64 x, .int .i64 y]) (sE S) ↔ True := by
  simp only [keyed, iff_true]
  refine ⟨rfl, rfl, fun p hp => ?_⟩
  obtain ⟨v, _, rfl⟩ := List.mem_map.1 hp
  exact ⟨rfl, rfl⟩
def bs (l : List Bool) : List V := l.map .bool
@[simp] theorem bs_len (l : List Bool) : (bs l).length = l.length := by simp [bs]
@[simp] theorem bs_get (l : List Bool) (n : Nat) (K : V → Prop) : fA ((bs l)[n]?) K = ∀ a, l[n]? = some a → K (.bool a) := by unfold bs; exact fA_map
@[simp] theorem bs_set (l : List Bool) (n : Nat) (b : Bool) : (bs l).set n (.bool b) = bs (l.set n b) := by simp [bs, List.map_set]
@[simp] theorem bs_rep (n : Nat) (b : Bool) : List.replicate n (V.bool b) = bs (List.replicate n b) := by simp [bs]
@[simp] theorem bs_inj (a b : List Bool) : bs a = bs b ↔ a = b := by
  constructor
  · exact fun h => (List.map_inj_right (fun x y e => by cases e; rfl)).1 h
  · rintro rfl; rfl
theorem pigeon {α : Type} [BEq α] [LawfulBEq α] : ∀ (S C : List α), S.Nodup → (∀ x ∈ S, x ∈ C) → S.length ≤ C.length
  | [], _, _, _ => Nat.zero_le _
  | x :: S, C, hn, hs => by
    rw [List.nodup_cons] at hn
    have h1 := pigeon S (C.erase x) hn.2 (fun y hy => (List.mem_erase_of_ne (fun e => hn.1 (by rw [← e]; exact hy))).2 (hs y (List.mem_cons_of_mem _ hy)))
    have h2 := hs x List.mem_cons_self
    rw [List.length_erase_of_mem h2] at h1
    have := List.length_pos_of_mem h2
    simp only [List.length_cons]
    omega
/-! the cells of a lattice, and marks on them -/
abbrev cl (a c : Int) : List (Int × Int) := cellsL c.toNat a.toNat
def inC (a c : Int) (v : Int × Int) : Prop := (0 ≤ v.1 ∧ v.1 < a) ∧ 0 ≤ v.2 ∧ v.2 < c
theorem inC_mv {a b c : Int} (ha : 1 ≤ a) (hc : 1 ≤ c) (g : G6) (v : Int × Int) : inC a c (mvV a b c g v) := red_lt ha hc
def ix (c : Int) (v : Int × Int) : Nat := (v.1 * c + v.2).toNat
theorem cl_ix {a c : Int} (ha : 1 ≤ a) (hc : 1 ≤ c) {v : Int × Int} (hv : inC a c v) : (cl a c)[ix c v]? = some v := by
  obtain ⟨x, y⟩ := v
  obtain ⟨h1, h2⟩ := hv
  simp only at h1 h2
  have h3 := (num_lt' h1 h2).2
  obtain ⟨n, rfl⟩ : ∃ n : Nat, c = n := ⟨c.toNat, by omega⟩
  obtain ⟨k, rfl⟩ : ∃ k : Nat, a = k := ⟨a.toNat, by omega⟩
  obtain ⟨i, rfl⟩ : ∃ i : Nat, x = i := ⟨x.toNat, by omega⟩
  obtain ⟨j, rfl⟩ : ∃ j : Nat, y = j := ⟨y.toNat, by omega⟩
  have hk : ix (n : Int) ((i : Int), (j : Int)) = i * n + j := by
    simp only [ix]
    omega
  have hlt : i * n + j < k * n := by
    have : ((i * n + j : Nat) : Int) < ((k * n : Nat) : Int) := by simpa using h3.2
    omega
  unfold cl
  rw [hk, Int.toNat_natCast, Int.toNat_natCast, cellsL_get n (by omega) k _ hlt]
  have h4 : (i * n + j) / n = i := by
    rw [Nat.div_eq_iff (by omega)]
    omega
  have h5 : (i * n + j) % n = j := by
    have := Nat.div_add_mod (i * n + j) n
    rw [h4, Nat.mul_comm] at this
    omega
  rw [h4, h5]
theorem cl_at {a c : Int} (ha : 1 ≤ a) (hc : 1 ≤ c) {i : Nat} {v : Int × Int} (h : (cl a c)[i]? = some v) : inC a c v ∧ ix c v = i := by
  obtain ⟨x, y⟩ := v
  obtain ⟨h1, _, h3⟩ := cell_of ha hc h
  exact ⟨h1, by simp only [ix]; omega⟩
theorem num_ix {a b c : Int} {v : Int × Int} (hv : inC a c v) : num a b c v.1 v.2 = v.1 * c + v.2 ∧ (0 ≤ v.1 * c + v.2 ∧ v.1 * c + v.2 < a * c) := by
  obtain ⟨h1, h2⟩ := hv
  refine ⟨?_, (num_lt' h1 h2).2⟩
  simp only [num, redX]
  rw [Int.ediv_eq_zero_of_lt h2.1 h2.2, Int.emod_eq_of_lt h2.1 h2.2, Int.zero_mul, Int.sub_zero, Int.emod_eq_of_lt h1.1 h1.2]
def marks (a c : Int) (S : List (Int × Int)) : List Bool := (cl a c).map fun v => decide (v ∈ S)
theorem marks_get {a c : Int} (ha : 1 ≤ a) (hc : 1 ≤ c) {v : Int × Int} (hv : inC a c v) (S : List (Int × Int)) : (marks a c S)[ix c v]? = some (decide (v ∈ S)) := by
  simp only [marks, List.getElem?_map, cl_ix ha hc hv, Option.map_some]
theorem marks_len {a c : Int} (S : List (Int × Int)) : (marks a c S).length = (cl a c).length := by simp [marks]
theorem marks_nil {a c : Int} : marks a c [] = List.replicate (cl a c).length false := by
  unfold marks
  rw [List.eq_replicate_iff]
  refine ⟨by simp, fun b hb => ?_⟩
  obtain ⟨v, _, rfl⟩ := List.mem_map.1 hb
  simp
theorem marks_set {a c : Int} (ha : 1 ≤ a) (hc : 1 ≤ c) {v : Int × Int} (hv : inC a c v) (S : List (Int × Int)) : (marks a c S).set (ix c v) true = marks a c (S ++ [v]) := by
  apply List.ext_getElem?
  intro j
  have hg := cl_ix ha hc hv
  rw [List.getElem?_set, marks_len]
  by_cases hj : ix c v = j
  · subst hj
    rw [if_pos rfl, if_pos (List.getElem?_eq_some_iff.1 hg).1]
    simp [marks, hg]
  · rw [if_neg hj]
    simp only [marks, List.getElem?_map]
    cases hw : (cl a c)[j]? with
    | none => rfl
    | some w =>
      have : w ≠ v := fun e => hj (by rw [← e]; exact (cl_at ha hc hw).2)
      simp [this]
/-! cycles -/
def wk (a b c : Int) (g : G6) : Nat → List (Int × Int) → Int × Int → List (Int × Int)
  | 0, S, _ => S
  | n + 1, S, u => if u ∈ S then S else wk a b c g n (S ++ [u]) (mvV a b c g u)
def wkF (a b c : Int) (g : G6) (S : List (Int × Int)) (u : Int × Int) : List (Int × Int) := wk a b c g ((cl a c).length + 1 - S.length) S u
def okSet (a c : Int) (S : List (Int × Int)) : Prop := S.Nodup ∧ ∀ v ∈ S, inC a c v
theorem okSet_len {a c : Int} (ha : 1 ≤ a) (hc : 1 ≤ c) {S : List (Int × Int)} (h : okSet a c S) : S.length ≤ (cl a c).length :=
  pigeon _ _ h.1 fun v hv => List.mem_of_getElem? (cl_ix ha hc (h.2 v hv))
theorem okSet_snoc {a c : Int} {S : List (Int × Int)} (h : okSet a c S) {u : Int × Int} (hu : inC a c u) (hn : u ∉ S) : okSet a c (S ++ [u]) := by
  refine ⟨?_, fun v hv => ?_⟩
  · rw [List.nodup_append]
    refine ⟨h.1, by simp, fun x hx y hy => ?_⟩
    simp only [List.mem_singleton] at hy
    subst hy
    exact fun e => hn (e ▸ hx)
  · rcases List.mem_append.1 hv with hv | hv
    · exact h.2 v hv
    · simp only [List.mem_singleton] at hv
      exact hv ▸ hu
theorem wkF_hit {a b c : Int} (ha : 1 ≤ a) (hc : 1 ≤ c) {g : G6} {S : List (Int × Int)} (h : okSet a c S) {u : Int × Int} (hu : u ∈ S) : wkF a b c g S u = S := by
  have := okSet_len ha hc h
  unfold wkF
  rw [show (cl a c).length + 1 - S.length = ((cl a c).length - S.length) + 1 by omega]
  simp [wk, hu]
theorem wkF_miss {a b c : Int} (ha : 1 ≤ a) (hc : 1 ≤ c) {g : G6} {S : List (Int × Int)} (h : okSet a c S) {u : Int × Int} (hi : inC a c u) (hu : u ∉ S) : wkF a b c g S u = wkF a b c g (S ++ [u]) (mvV a b c g u) ∧ S.length < (cl a c).length := by
  have := okSet_len ha hc (okSet_snoc h hi hu)
  simp only [List.length_append, List.length_singleton] at this
  refine ⟨?_, by omega⟩
  unfold wkF
  rw [show (cl a c).length + 1 - S.length = ((cl a c).length + 1 - (S ++ [u]).length) + 1 by simp; omega]
  simp [wk, hu]
def cy1 (a b c : Int) (g : G6) (st : List (Int × Int) × Nat) (v : Int × Int) : List (Int × Int) × Nat := if v ∈ st.1 then st else (wkF a b c g st.1 v, st.2 + 1)
def cyS (a b c : Int) (g : G6) (l : List (Int × Int)) : List (Int × Int) × Nat := l.foldl (cy1 a b c g) ([], 0)
theorem cyS_succ {a b c : Int} {g : G6} {l : List (Int × Int)} {i : Nat} {v : Int × Int} (h : l[i]? = some v) : cyS a b c g (l.take (i + 1)) = cy1 a b c g (cyS a b c g (l.take i)) v := by
  unfold cyS
  rw [List.take_add_one, h, List.foldl_append]
  rfl
theorem wk_ok {a b c : Int} (ha : 1 ≤ a) (hc : 1 ≤ c) {g : G6} : ∀ (n : Nat) (S : List (Int × Int)) (u : Int × Int), okSet a c S → inC a c u → okSet a c (wk a b c g n S u)
  | 0, S, u, h, _ => h
  | n + 1, S, u, h, hu => by
    simp only [wk]
    split
    · exact h
    · rename_i hn
      exact wk_ok ha hc n _ _ (okSet_snoc h hu hn) (inC_mv ha hc g u)
theorem cyS_ok {a b c : Int} (ha : 1 ≤ a) (hc : 1 ≤ c) {g : G6} : ∀ i, okSet a c (cyS a b c g ((cl a c).take i)).1 ∧ (cyS a b c g ((cl a c).take i)).2 ≤ i
  | 0 => by simp [cyS, okSet]
  | i + 1 => by
    obtain ⟨h1, h2⟩ := cyS_ok ha hc (g := g) i
    cases hv : (cl a c)[i]? with
    | none =>
      rw [List.take_of_length_le (by have := List.getElem?_eq_none_iff.1 hv; omega)]
      rw [List.take_of_length_le (by have := List.getElem?_eq_none_iff.1 hv; omega)] at h1 h2
      exact ⟨h1, by omega⟩
    | some v =>
      rw [cyS_succ hv]
      unfold cy1
      split
      · exact ⟨h1, by omega⟩
      · exact ⟨wk_ok ha hc _ _ _ h1 (cl_at ha hc hv).1, by simp only; omega⟩
end Go.Proofs.YtgkhakhkebjbpaaEv
namespace Go.Proofs.YtgkhakhkebjbpaaEv
open Go Go.Proofs
set_option maxRecDepth 10000
@[simp] theorem gs_nil : gs [] = [] := rfl
@[simp] theorem gs_len (l : List G6) : (gs l).length = l.length := by simp [gs]
@[simp] theorem gs_get (l : List G6) (n : Nat) (K : V → Prop) : fA ((gs l)[n]?) K = ∀ g, l[n]? = some g → K (.ag [.int .i64 g.1.1, .int .i64 g.1.2.1, .int .i64 g.1.2.2.1, .int .i64 g.1.2.2.2, .int .i64 g.2.1, .int .i64 g.2.2]) := by unfold gs; exact fA_map
@[simp] theorem gs_app (l : List G6) (a b c d x y : Int) : gs l ++ [.ag [.int .i64 a, .int .i64 b, .int .i64 c, .int .i64 d, .int .i64 x, .int .i64 y]] = gs (l ++ [((a, b, c, d), x, y)]) := by simp [gs, vg]
@[simp] theorem gs_set (l : List G6) (n : Nat) (a b c d x y : Int) : (gs l).set n (.ag [.int .i64 a, .int .i64 b, .int .i64 c, .int .i64 d, .int .i64 x, .int .i64 y]) = gs (l.set n ((a, b, c, d), x, y)) := by simp [gs, vg, List.map_set]
@[simp] theorem gs_flat (l : List G6) : (∀ x, x ∈ gs l → x.flat = true) ↔ True := by
  simp only [iff_true]
  intro x hx
  obtain ⟨y, _, rfl⟩ := List.mem_map.1 hx
  rfl
theorem vg_inj (g h : G6) (e : vg g = vg h) : g = h := by
  obtain ⟨⟨a, b, c, d⟩, x, y⟩ := g
  obtain ⟨⟨a', b', c', d'⟩, x', y'⟩ := h
  simp only [vg, V.ag.injEq, List.cons.injEq, V.int.injEq, true_and, and_true] at e
  obtain ⟨rfl, rfl, rfl, rfl, rfl, rfl⟩ := e
  rfl
@[simp] theorem gs_inj (a b : List G6) : gs a = gs b ↔ a = b := by
  constructor
  · exact fun h => (List.map_inj_right (fun x y e => vg_inj x y e)).1 h
  · rintro rfl; rfl
abbrev vgs (l : List G6) : V := .sl 6 (gs l)
def gE (S : List G6) : List (V × V) := S.map fun y => (vg y, V.bool true)
@[simp] theorem gE_nil : gE [] = [] := rfl
@[simp] theorem gE_get (S : List G6) (a b c d x y : Int) : lkA (.bool false) false (mget (.ag [.int .i64 a, .int .i64 b, .int .i64 c, .int .i64 d, .int .i64 x, .int .i64 y]) (gE S)) = .v (.bool (decide (((a, b, c, d), x, y) ∈ S))) := by
  have := mget_enc vg vg_inj S ((a, b, c, d), x, y)
  rw [show V.ag [.int .i64 a, .int .i64 b, .int .i64 c, .int .i64 d, .int .i64 x, .int .i64 y] = vg ((a, b, c, d), x, y) from rfl, gE, this]
  by_cases h : ((a, b, c, d), x, y) ∈ S <;> simp [h, lkA]
@[simp] theorem gE_put (S : List G6) (a b c d x y : Int) : mput (.ag [.int .i64 a, .int .i64 b, .int .i64 c, .int .i64 d, .int .i64 x, .int .i64 y]) (.bool true) (gE S) = gE (if ((a, b, c, d), x, y) ∈ S then S else S ++ [((a, b, c, d), x, y)]) := by
  have := mput_enc vg vg_inj S ((a, b, c, d), x, y)
  rw [show V.ag [.int .i64 a, .int .i64 b, .int .i64 c, .int .i64 d, .int .i64 x, .int .i64 y] = vg ((a, b, c, d), x, y) from rfl, gE, this, gE]
  by_cases h : ((a, b, c, d), x, y) ∈ S <;> simp [h]
@[simp] theorem gE_keyed (S : List G6) (a b c d x y : Int) : keyed 6 [1, 1, 1, 1, 1, 1] (.ag [.int .i64 a, .int .i64 b, .int .i64 c, .int .i64 d, .int .i64 x, .int .i64 y]) (gE S) ↔ True := by
  simp only [keyed, iff_true]
  refine ⟨rfl, rfl, fun p hp => ?_⟩
  obtain ⟨v, _, rfl⟩ := List.mem_map.1 hp
  exact ⟨rfl, rfl⟩
/-! the order -/
def lexLt : List Int → List Int → Bool
  | x :: xs, y :: ys => if x = y then lexLt xs ys else decide (x < y)
  | _, _ => false
theorem lexLt_irr : ∀ xs, lexLt xs xs = false
  | [] => rfl
  | x :: xs => by simp [lexLt, lexLt_irr xs]
theorem lexLt_trans : ∀ {xs ys zs : List Int}, xs.length = ys.length → ys.length = zs.length → lexLt xs ys = true → lexLt ys zs = true → lexLt xs zs = true
  | [], _, _, _, _, h, _ => by simp [lexLt] at h
  | x :: xs, [], _, h, _, _, _ => by simp at h
  | x :: xs, y :: ys, [], _, h, _, _ => by simp at h
  | x :: xs, y :: ys, z :: zs, h1, h2, h3, h4 => by
    simp only [lexLt] at h3 h4 ⊢
    split at h3 <;> split at h4 <;> split
    · exact lexLt_trans (by simpa using h1) (by simpa using h2) h3 h4
    · exfalso; omega
    · exfalso; rename_i e1 e2 e3; simp at h4; omega
    · simp at h4 ⊢; omega
    · exfalso; rename_i e1 e2 e3; simp at h3; omega
    · simp at h3 ⊢; omega
    · simp at h3 h4; omega
    · simp at h3 h4 ⊢; omega
theorem lexLt_at : ∀ {xs ys : List Int} {i : Nat} {x y : Int}, xs.take i = ys.take i → xs[i]? = some x → ys[i]? = some y → x ≠ y → lexLt xs ys = decide (x < y) ∧ xs ≠ ys
  | [], _, _, _, _, _, h, _, _ => by simp at h
  | _ :: _, [], _, _, _, _, _, h, _ => by simp at h
  | a :: xs, b :: ys, 0, x, y, _, h1, h2, hn => by
    simp only [List.getElem?_cons_zero, Option.some.injEq] at h1 h2
    subst h1 h2
    simp [lexLt, hn]
  | a :: xs, b :: ys, i + 1, x, y, h, h1, h2, hn => by
    simp only [List.take_succ_cons, List.cons.injEq] at h
    obtain ⟨rfl, h⟩ := h
    have := lexLt_at h (by simpa using h1) (by simpa using h2) hn
    simp [lexLt, this.1, this.2]
theorem lexLt_app : ∀ {xs ys us vs : List Int}, xs.length = ys.length → lexLt (xs ++ us) (ys ++ vs) = if xs = ys then lexLt us vs else lexLt xs ys
  | [], [], _, _, _ => by simp
  | [], _ :: _, _, _, h => by simp at h
  | _ :: _, [], _, _, h => by simp at h
  | x :: xs, y :: ys, us, vs, h => by
    have := lexLt_app (us := us) (vs := vs) (show xs.length = ys.length by simpa using h)
    simp only [List.cons_append, lexLt]
    by_cases e : x = y
    · subst e
      simp only [if_true, this, List.cons.injEq, true_and]
    · simp [e]
theorem s_lessL (xs ys : List Int) (hl : xs.length = ys.length) (hx : xs.length ≤ 1048576) : Sp Try.prog 95 [.v (vis xs), .v (vis ys)] (vb (lexLt xs ys)) [] := by
  refine sp_of (m := no) mixed Try.func95 k95 ?_
  simp -dsimp [q]
  refine awp_it (true :: true :: false :: false :: false :: true :: []) (fun i : Nat => [(5, vi i)]) (fun i => []) (fun i => i ≤ xs.length ∧ xs.take i = ys.take i) (fun i => xs.length - i) 0 ?_
  intro s0 e
  simp -dsimp at e
  subst e
  refine ⟨?_, ?_⟩
  · simp
  rintro i ⟨hi, ht⟩
  simp -dsimp
  refine ⟨fun h1 => ⟨fun h2 => ⟨h1, fun x hx' => ⟨h2, fun y hy' => ⟨fun hn => ?_, fun e => ?_⟩⟩⟩, fun h2 => ?_⟩, fun h1 => ?_⟩
  · refine ⟨h1, fun x2 hx2 => ⟨h2, fun y2 hy2 => ?_⟩⟩
    rw [hx'] at hx2
    rw [hy'] at hy2
    cases hx2
    cases hy2
    exact (lexLt_at ht hx' hy' hn).1.symm
  · subst e
    refine ⟨i + 1, by rw [w64 (by omega) (by omega)]; simp, ⟨by omega, ?_⟩, by omega⟩
    rw [List.take_add_one, List.take_add_one, ht, hx', hy']
  · omega
  · rw [List.take_of_length_le h1, List.take_of_length_le (by omega)] at ht
    rw [ht, lexLt_irr]
    simp
def m4 (m : M4) : List Int := [m.1, m.2.1, m.2.2.1, m.2.2.2]
def t2 (v : Int × Int) : List Int := [v.1, v.2]
def ltG (g h : G6) : Bool := if g.1 = h.1 then lexLt (t2 g.2) (t2 h.2) else lexLt (m4 g.1) (m4 h.1)
theorem m4_inj (m n : M4) : m4 m = m4 n ↔ m = n := by
  constructor
  · intro h
    simp only [m4, List.cons.injEq, and_true] at h
    exact Prod.ext h.1 (Prod.ext h.2.1 (Prod.ext h.2.2.1 h.2.2.2))
  · rintro rfl; rfl
theorem ltG_lex (g h : G6) : ltG g h = lexLt (m4 g.1 ++ t2 g.2) (m4 h.1 ++ t2 h.2) := by
  have e : (m4 g.1).length = (m4 h.1).length := rfl
  rw [lexLt_app e]
  clear e
  unfold ltG
  by_cases e : g.1 = h.1
  · rw [if_pos e, if_pos (by rw [e])]
  · rw [if_neg e, if_neg (fun k => e ((m4_inj _ _).1 k))]
theorem ltG_irr (g : G6) : ltG g g = false := by rw [ltG_lex, lexLt_irr]
theorem ltG_trans {g h k : G6} (h1 : ltG g h = true) (h2 : ltG h k = true) : ltG g k = true := by
  rw [ltG_lex] at *
  exact lexLt_trans (ys := m4 h.1 ++ t2 h.2) rfl rfl h1 h2
theorem t2_inj (m n : Int × Int) : t2 m = t2 n ↔ m = n := by
  constructor
  · intro h
    simp only [t2, List.cons.injEq, and_true] at h
    exact Prod.ext h.1 h.2
  · rintro rfl; rfl
theorem s_sless (x y x' y' : Int) : Sp Try.prog 93 [aV x y, aV x' y'] (vb (lexLt (t2 (x, y)) (t2 (x', y')))) [] := by
  refine sp_of (m := no) mixed Try.func93 k93 ?_
  simp -dsimp [q]
  refine ⟨fun h => ⟨fun e => ?_, fun e => ?_⟩, fun h => ?_⟩
  · simp [lexLt, t2, e]
    by_cases e2 : y = y' <;> simp [e2]
  · simp [lexLt, t2, e]
    omega
  · simp [lexLt, t2]
    rw [if_neg (by omega)]
    simpa using h
theorem s_nums (m : M4) : Sp Try.prog 96 [aM4 m] (.v (.sl 0 [.int .i64 m.1, .int .i64 m.2.1, .int .i64 m.2.2.1, .int .i64 m.2.2.2])) [] := by
  refine sp_of (m := no) mixed Try.func96 k96 ?_
  simp -dsimp [q]
theorem s_lessM (m n : M4) : Sp Try.prog 92 [aM4 m, aM4 n] (vb (lexLt (m4 m) (m4 n))) [] := by
  refine sp_of (m := no) mixed Try.func92 k92 ?_
  have w := s_lessL (m4 m) (m4 n) rfl (by simp [m4])
  simp -dsimp [q]
  refine call_of (s_nums m) rfl (by simp) ?_
  try simp -dsimp
  try (first | exact fp_one (by decide) | refine fp_and (by decide) ?_)
  refine call_of (s_nums n) rfl (by simp) ?_
  try simp -dsimp
  try (first | exact fp_one (by decide) | refine fp_and (by decide) ?_)
  refine call_of ((w : Sp Try.prog _ [.v (.sl 0 [.int .i64 m.1, .int .i64 m.2.1, .int .i64 m.2.2.1, .int .i64 m.2.2.2]), .v (.sl 0 [.int .i64 n.1, .int .i64 n.2.1, .int .i64 n.2.2.1, .int .i64 n.2.2.2])] _ _)) rfl (by simp) ?_
  try simp -dsimp
  try (first | exact fp_one (by decide) | refine fp_and (by decide) ?_)
theorem s_lessG (g h : G6) : Sp Try.prog 86 [aG6 g, aG6 h] (vb (ltG g h)) [] := by
  refine sp_of (m := no) mixed Try.func86 k86 ?_
  have w1 := s_lessM g.1 h.1
  have w2 := s_sless g.2.1 g.2.2 h.2.1 h.2.2
  simp -dsimp [q]
  refine ⟨fun hn => ?_, fun e1 e2 e3 e4 => ?_⟩
  · have e : ltG g h = lexLt (m4 g.1) (m4 h.1) := by
      unfold ltG
      rw [if_neg (fun e => by rw [e] at hn; exact hn rfl rfl rfl rfl)]
    rw [← e] at w1
    refine call_of (w1) rfl (by simp) ?_
    try simp -dsimp
    try (first | exact fp_one (by decide) | refine fp_and (by decide) ?_)
  · have e : ltG g h = lexLt (t2 g.2) (t2 h.2) := by
      unfold ltG
      rw [if_pos (Prod.ext e1 (Prod.ext e2 (Prod.ext e3 e4)))]
    rw [← e] at w2
    refine call_of (w2) rfl (by simp) ?_
    try simp -dsimp
    try (first | exact fp_one (by decide) | refine fp_and (by decide) ?_)
/-! searching -/
def srt (l : List G6) : Prop := l.Pairwise fun g h => ltG g h = true
theorem srt_get {l : List G6} (h : srt l) {i j : Nat} {g k : G6} (hi : l[i]? = some g) (hj : l[j]? = some k) (hij : i < j) : ltG g k = true := by
  obtain ⟨hi', rfl⟩ := List.getElem?_eq_some_iff.1 hi
  obtain ⟨hj', rfl⟩ := List.getElem?_eq_some_iff.1 hj
  exact List.pairwise_iff_getElem.1 h i j hi' hj' hij
def plc (l : List G6) (m : G6) : Nat := l.findIdx fun x => !ltG x m
theorem plc_eq {l : List G6} {m : G6} {k : Nat} (hk : k ≤ l.length) (h1 : ∀ (j : Nat) x, j < k → l[j]? = some x → ltG x m = true) (h2 : ∀ (j : Nat) x, k ≤ j → l[j]? = some x → ltG x m = false) : plc l m = k := by
  unfold plc
  by_cases e : k < l.length
  · refine (List.findIdx_eq e).2 ⟨by simp [h2 k l[k] (Nat.le_refl _) (List.getElem?_eq_getElem e)], fun j hj => ?_⟩
    simp [h1 j l[j] hj (List.getElem?_eq_getElem (by omega))]
  · have : k = l.length := by omega
    subst this
    rw [List.findIdx_eq_length]
    intro x hx
    obtain ⟨j, hj⟩ := List.getElem?_of_mem hx
    simp [h1 j x (List.getElem?_eq_some_iff.1 hj).1 hj]
def plI (l : List G6) (m : G6) (lo hi : Nat) : Prop := lo ≤ hi ∧ hi ≤ l.length ∧ (∀ (j : Nat) x, j < lo → l[j]? = some x → ltG x m = true) ∧ ∀ (j : Nat) x, hi ≤ j → l[j]? = some x → ltG x m = false
theorem s_place (l : List G6) (m : G6) (hs : srt l) (hl : l.length ≤ 1048576) : Sp Try.prog 81 [.v (vgs l), aG6 m] (vi (plc l m)) [] := by
  refine sp_of (m := no) mixed Try.func81 k81 ?_
  simp -dsimp [q]
  refine awp_it (true :: false :: false :: true :: false :: true :: true :: []) (fun s : Nat × Nat => [(5, vi s.1), (6, vi s.2)]) (fun s => []) (fun s => plI l m s.1 s.2) (fun s => s.2 - s.1) (0, l.length) ?_
  intro s0 e
  simp -dsimp at e
  subst e
  refine ⟨?_, ?_⟩
  · refine ⟨by simp, by simp, by simp, fun j x hj => by simp at hj, fun j x hj hx => ?_⟩
    have := (List.getElem?_eq_some_iff.1 hx).1
    simp only at hj
    omega
  rintro ⟨lo, hi⟩ ⟨k1, k2, k3, k4⟩
  simp only at k1 k2 k3 k4
  simp -dsimp [-Prod.forall, -Prod.exists]
  refine ⟨fun h1 => ?_, fun h1 => ?_⟩
  · have e : IntKind.i64.wrap ((IntKind.i64.wrap ((lo : Int) + hi)).tdiv 2) = ((lo + hi) / 2 : Nat) := by
      rw [w64 (n := (lo : Int) + hi) (by omega) (by omega), Int.tdiv_eq_ediv_of_nonneg (by omega), w64 (by omega) (by omega)]
      omega
    rw [e]
    generalize hm : (lo + hi) / 2 = md
    have hm1 : lo ≤ md ∧ md < hi := by omega
    refine ⟨⟨by omega, by omega⟩, fun x hx => ?_⟩
    rw [Int.toNat_natCast] at hx
    refine call_of (s_lessG x m) rfl (by simp) ?_
    try simp -dsimp
    try (first | exact fp_one (by decide) | refine fp_and (by decide) ?_)
    refine ⟨fun hlt => ⟨md + 1, hi, ⟨by rw [w64 (by omega) (by omega)]; simp, rfl⟩, ⟨by omega, by omega, fun j y hj hy => ?_, k4⟩, by omega⟩, fun hlt => ⟨lo, md, ⟨rfl, rfl⟩, ⟨by omega, by omega, k3, fun j y hj hy => ?_⟩, by omega⟩⟩
    · by_cases e2 : j = md
      · subst e2
        rw [hx] at hy
        cases hy
        exact hlt
      · exact ltG_trans (srt_get hs hy hx (by omega)) hlt
    · by_cases e2 : j = md
      · subst e2
        rw [hx] at hy
        cases hy
        exact hlt
      · cases hq : ltG y m with
        | false => rfl
        | true =>
          rw [ltG_trans (srt_get hs hx hy (by omega)) hq] at hlt
          cases hlt
  · rw [plc_eq (k := lo) (by omega) k3 (fun j x hj hx => k4 j x (by omega) hx)]
theorem plc_has {l : List G6} {m : G6} (hs : srt l) : (plc l m < l.length ∧ l[plc l m]? = some m) ↔ m ∈ l := by
  constructor
  · exact fun h => List.mem_of_getElem? h.2
  · intro h
    obtain ⟨j, hj⟩ := List.getElem?_of_mem h
    have hjl := (List.getElem?_eq_some_iff.1 hj).1
    have : plc l m = j := plc_eq (by omega) (fun i x hi hx => srt_get hs hx hj hi) (fun i x hi hx => by
      by_cases e : i = j
      · subst e
        rw [hj] at hx
        cases hx
        exact ltG_irr m
      · cases hq : ltG x m with
        | false => rfl
        | true =>
          have := ltG_trans (srt_get hs hj hx (by omega)) hq
          rw [ltG_irr] at this
          cases this)
    rw [this]
    exact ⟨hjl, hj⟩
theorem s_shas (l : List G6) (m : G6) (hs : srt l) (hl : l.length ≤ 1048576) : Sp Try.prog 73 [.v (vgs l), aG6 m] (vb (decide (m ∈ l))) [] := by
  refine sp_of (m := no) mixed Try.func73 k73 ?_
  have hp := plc_has (m := m) hs
  simp -dsimp [q, -Prod.forall, -Prod.exists]
  refine call_of (s_place l m hs hl) rfl (by simp) ?_
  try simp -dsimp
  try (first | exact fp_one (by decide) | refine fp_and (by decide) ?_)
  refine ⟨fun h1 => ⟨h1, fun a b c d x y hx => ?_⟩, fun h1 hm => ?_⟩
  · rw [Bool.eq_iff_iff, cdec_true, decide_eq_true_iff, ← hp, hx]
    obtain ⟨⟨a', b', c', d'⟩, x', y'⟩ := m
    simp only [Option.some.injEq, Prod.mk.injEq]
    constructor
    · rintro ⟨rfl, rfl, rfl, rfl, rfl, rfl⟩; exact ⟨h1, ⟨rfl, rfl, rfl, rfl⟩, rfl, rfl⟩
    · rintro ⟨_, ⟨rfl, rfl, rfl, rfl⟩, rfl, rfl⟩; exact ⟨rfl, rfl, rfl, rfl, rfl, rfl⟩
  · have := (hp.2 hm).1
    omega
end Go.Proofs.YtgkhakhkebjbpaaEv
namespace Go.Proofs.YtgkhakhkebjbpaaEv
open Go Go.Proofs
set_option maxRecDepth 10000
set_option maxHeartbeats 2000000
theorem s_reduceAny (a b c x y : Int) (ha : 1 ≤ a ∧ a ≤ 64) (hc : 1 ≤ c ∧ c ≤ 64) : ∃ X, ((0 ≤ X ∧ X < a) ∧ (inC a c (x, y) → X = x)) ∧ Sp Try.prog 57 [aL a b c, aV x y] (aV X (y % c)) [] := by
  refine ⟨(IntKind.i64.wrap (x - IntKind.i64.wrap (IntKind.i64.wrap ((IntKind.i64.wrap (y - y % c)).tdiv c) * b))) % a, ⟨⟨Int.emod_nonneg _ (by omega), Int.emod_lt_of_pos _ (by omega)⟩, fun h => ?_⟩, ?_⟩
  · obtain ⟨h1, h2⟩ := h
    simp only at h1 h2
    rw [Int.emod_eq_of_lt h2.1 h2.2, Int.sub_self, w64 (n := 0) (by omega) (by omega), Int.zero_tdiv, w64 (n := 0) (by omega) (by omega), Int.zero_mul, w64 (n := 0) (by omega) (by omega), Int.sub_zero, w64 (by omega) (by omega), Int.emod_eq_of_lt h1.1 h1.2]
  refine sp_of (m := no) mixed Try.func57 k57 ?_
  simp -dsimp [q]
  refine call_of (s_mod _ _ (by omega)) rfl (by simp) ?_
  try simp -dsimp
  try (first | exact fp_one (by decide) | refine fp_and (by decide) ?_)
  refine ⟨by omega, ?_⟩
  refine call_of (s_mod _ _ (by omega)) rfl (by simp) ?_
  try simp -dsimp
  try (first | exact fp_one (by decide) | refine fp_and (by decide) ?_)
def mulM (m n : M4) : M4 := (m.1 * n.1 + m.2.1 * n.2.2.1, m.1 * n.2.1 + m.2.1 * n.2.2.2, m.2.2.1 * n.1 + m.2.2.2 * n.2.2.1, m.2.2.1 * n.2.1 + m.2.2.2 * n.2.2.2)
def oneM (m : M4) : Prop := (m.1.natAbs ≤ 1 ∧ m.2.1.natAbs ≤ 1) ∧ m.2.2.1.natAbs ≤ 1 ∧ m.2.2.2.natAbs ≤ 1
theorem s_smmul (m n : M4) (hm : oneM m) (hn : oneM n) : Sp Try.prog 79 [aM4 m, aM4 n] (aM4 (mulM m n)) [] := by
  refine sp_of (m := no) mixed Try.func79 k79 ?_
  obtain ⟨⟨m1, m2⟩, m3, m4⟩ := hm
  obtain ⟨⟨n1, n2⟩, n3, n4⟩ := hn
  have h1 := mul_bd m1 n1
  have h2 := mul_bd m2 n3
  have h3 := mul_bd m1 n2
  have h4 := mul_bd m2 n4
  have h5 := mul_bd m3 n1
  have h6 := mul_bd m4 n3
  have h7 := mul_bd m3 n2
  have h8 := mul_bd m4 n4
  simp -dsimp [q]
  rw [w64 (n := m.1 * n.1) (by omega) (by omega), w64 (n := m.2.1 * n.2.2.1) (by omega) (by omega), w64 (n := m.1 * n.2.1) (by omega) (by omega), w64 (n := m.2.1 * n.2.2.2) (by omega) (by omega),
    w64 (n := m.2.2.1 * n.1) (by omega) (by omega), w64 (n := m.2.2.2 * n.2.2.1) (by omega) (by omega), w64 (n := m.2.2.1 * n.2.1) (by omega) (by omega), w64 (n := m.2.2.2 * n.2.2.2) (by omega) (by omega)]
  refine ⟨w64 (by omega) (by omega), w64 (by omega) (by omega), w64 (by omega) (by omega), w64 (by omega) (by omega)⟩
def mulG (g h : G6) : G6 := (mulM g.1 h.1, g.1.1 * h.2.1 + g.1.2.1 * h.2.2 + g.2.1, g.1.2.2.1 * h.2.1 + g.1.2.2.2 * h.2.2 + g.2.2)
def redG (a b c : Int) (g : G6) : G6 := (g.1, redX a b c g.2.1 g.2.2, g.2.2 % c)
def memG (a c : Int) (g : G6) : Prop := oneM g.1 ∧ inC a c g.2
theorem s_sgmul (g h : G6) (hg : oneM g.1 ∧ g.2.1.natAbs ≤ 1000 ∧ g.2.2.natAbs ≤ 1000) (hh : oneM h.1 ∧ h.2.1.natAbs ≤ 1000 ∧ h.2.2.natAbs ≤ 1000) : Sp Try.prog 72 [aG6 g, aG6 h] (aG6 (mulG g h)) [] := by
  refine sp_of (m := no) mixed Try.func72 k72 ?_
  have wm := s_smmul g.1 h.1 hg.1 hh.1
  obtain ⟨⟨⟨m1, m2⟩, m3, m4⟩, m5, m6⟩ := hg
  obtain ⟨_, n5, n6⟩ := hh
  have h1 := mul_bd m1 n5
  have h2 := mul_bd m2 n6
  have h3 := mul_bd m3 n5
  have h4 := mul_bd m4 n6
  simp -dsimp [q]
  refine call_of (wm) rfl (by simp) ?_
  try simp -dsimp
  try (first | exact fp_one (by decide) | refine fp_and (by decide) ?_)
  refine call_of (s_sapply _ _ _ _ _ _ ⟨⟨by omega, by omega⟩, by omega, by omega⟩ ⟨by omega, by omega⟩) rfl (by simp) ?_
  try simp -dsimp
  try (first | exact fp_one (by decide) | refine fp_and (by decide) ?_)
  refine call_of (s_sadd _ _ _ _ (by omega) (by omega) (by omega) (by omega)) rfl (by simp) ?_
  try simp -dsimp
  try (first | exact fp_one (by decide) | refine fp_and (by decide) ?_)
  exact ⟨rfl, rfl, rfl, rfl, rfl, rfl⟩
theorem s_sgred (a b c : Int) (g : G6) (ha : 1 ≤ a ∧ a ≤ 64) (hb : 0 ≤ b ∧ b < a) (hc : 1 ≤ c ∧ c ≤ 64) (hx : -1000000000 ≤ g.2.1 ∧ g.2.1 ≤ 1000000000) (hy : -1000000000 ≤ g.2.2 ∧ g.2.2 ≤ 1000000000) : Sp Try.prog 61 [aL a b c, aG6 g] (aG6 (redG a b c g)) [] := by
  refine sp_of (m := no) mixed Try.func61 k61 ?_
  simp -dsimp [q]
  refine call_of (s_sreduce a b c _ _ ha hb hc hx hy) rfl (by simp) ?_
  try simp -dsimp
  try (first | exact fp_one (by decide) | refine fp_and (by decide) ?_)
  exact ⟨rfl, rfl, rfl, rfl, rfl, rfl⟩
abbrev unG : G6 := ((1, 0, 0, 1), 0, 0)
theorem s_sun : Sp Try.prog 60 [] (aG6 unG) [] := by
  refine sp_of (m := no) mixed Try.func60 k60 ?_
  simp -dsimp [q]
  refine call_of (s_sunit) rfl (by simp) ?_
  try simp -dsimp
  try (first | exact fp_one (by decide) | refine fp_and (by decide) ?_)
/-! is it a group? -/
def elG (f a b c : Int) (g : G6) : Bool := pmOk f g.1 && keepL a b c g.1 && decide (0 ≤ g.2.1 ∧ g.2.1 < a) && decide (0 ≤ g.2.2 ∧ g.2.2 < c)
theorem elG_spec {f a b c : Int} (hf : 0 ≤ f ∧ f ≤ 1) {g : G6} (h : elG f a b c g = true) : oneM g.1 ∧ inC a c g.2 := by
  simp only [elG, Bool.and_eq_true, decide_eq_true_eq] at h
  obtain ⟨h1, h2, _⟩ := pm_facts hf h.1.1.1
  exact ⟨⟨⟨h1.1, h1.2⟩, h2.1, h2.2⟩, h.1.2, h.2⟩
def fst (f a b c : Int) (l : List G6) (i : Nat) : Prop := (∀ g ∈ l.take i, elG f a b c g = true) ∧ srt (l.take i)
theorem fst_succ {f a b c : Int} {l : List G6} {i : Nat} {g : G6} (hg : l[i]? = some g) : fst f a b c l (i + 1) ↔ (fst f a b c l i ∧ elG f a b c g = true ∧ ∀ p, 0 < i → l[i - 1]? = some p → ltG p g = true) := by
  unfold fst srt
  have e : l.take (i + 1) = l.take i ++ [g] := by rw [List.take_add_one, hg]; rfl
  rw [e, List.pairwise_append]
  constructor
  · rintro ⟨h1, h2, _, h3⟩
    refine ⟨⟨fun x hx => h1 x (by simp [hx]), h2⟩, h1 g (by simp), fun p hi hp => h3 p ?_ g (by simp)⟩
    exact List.mem_of_getElem? (i := i - 1) (by rw [List.getElem?_take_of_lt (by omega)]; exact hp)
  · rintro ⟨⟨h1, h2⟩, h3, h4⟩
    refine ⟨fun x hx => ?_, h2, by simp, fun x hx y hy => ?_⟩
    · rcases List.mem_append.1 hx with hx | hx
      · exact h1 x hx
      · simp only [List.mem_singleton] at hx; rw [hx]; exact h3
    · simp only [List.mem_singleton] at hy
      subst hy
      obtain ⟨j, hj⟩ := List.getElem?_of_mem hx
      have hji : j < i := by
        have := (List.getElem?_eq_some_iff.1 hj).1
        simp at this; omega
      have hil := (List.getElem?_eq_some_iff.1 hg).1
      obtain ⟨p, hp⟩ : ∃ p, l[i - 1]? = some p := ⟨_, List.getElem?_eq_getElem (show i - 1 < l.length by omega)⟩
      have h5 := h4 _ (by omega) hp
      by_cases ej : j = i - 1
      · subst ej
        rw [List.getElem?_take_of_lt (by omega), hp] at hj
        cases hj
        exact h5
      · exact ltG_trans (srt_get h2 hj (by rw [List.getElem?_take_of_lt (show i - 1 < i by omega)]; exact hp) (by omega)) h5
def prd (a b c : Int) (l : List G6) (i : Nat) : Prop := ∀ g ∈ l.take i, ∀ h ∈ l, redG a b c (mulG g h) ∈ l
def prd1 (a b c : Int) (l : List G6) (g : G6) (j : Nat) : Prop := ∀ h ∈ l.take j, redG a b c (mulG g h) ∈ l
def grp (f a b c : Int) (l : List G6) : Prop := fst f a b c l l.length ∧ unG ∈ l ∧ prd a b c l l.length
theorem fst_mono {f a b c : Int} {l : List G6} {i j : Nat} (h : i ≤ j) (k : fst f a b c l j) : fst f a b c l i := by
  have e : l.take i = (l.take j).take i := by rw [List.take_take, Nat.min_eq_left h]
  unfold fst srt at *
  rw [e]
  exact ⟨fun g hg => k.1 g (List.mem_of_mem_take hg), k.2.sublist (List.take_sublist _ _)⟩
theorem cdec_t {p : Prop} (h : p) : cdec p = true := cdec_true.2 h
theorem cdec_f {p : Prop} (h : ¬ p) : cdec p = false := cdec_false.2 h
theorem fst_new {f a b c : Int} {l : List G6} {i : Nat} {g : G6} (hg : l[i]? = some g) (h : fst f a b c l (i + 1)) : g ∉ l.take i := by
  intro hm
  obtain ⟨j, hj⟩ := List.getElem?_of_mem hm
  have hji : j < i := by
    have := (List.getElem?_eq_some_iff.1 hj).1
    simp at this; omega
  have := srt_get h.2 (i := j) (j := i) (g := g) (k := g) (by rw [List.getElem?_take_of_lt (by omega)] at hj ⊢; exact hj) (by rw [List.getElem?_take_of_lt (by omega)]; exact hg) hji
  rw [ltG_irr] at this
  cases this
end Go.Proofs.YtgkhakhkebjbpaaEv
namespace Go.Proofs.YtgkhakhkebjbpaaEv
open Go Go.Proofs
set_option maxRecDepth 10000
set_option maxHeartbeats 2000000
theorem pm_count (f : Int) (hf : 0 ≤ f ∧ f ≤ 1) : (pmL f 81).length ≤ 12 := by
  rcases (by omega : f = 0 ∨ f = 1) with rfl | rfl
  · decide +kernel
  · decide +kernel
theorem flat_len {α β : Type} (l : List α) (m : List β) : (l.flatMap fun x => m.map fun y => (x, y)).length = l.length * m.length := by
  induction l with
  | nil => simp
  | cons x l ih => simp [ih, Nat.succ_mul, Nat.add_comm]
theorem fst_len {f a b c : Int} {l : List G6} (hf : 0 ≤ f ∧ f ≤ 1) (ha : 1 ≤ a) (hc : 1 ≤ c) (hac : a * c ≤ 64) (h : fst f a b c l l.length) : l.length ≤ 768 := by
  obtain ⟨h1, h2⟩ := h
  rw [List.take_length] at h1 h2
  have hn : l.Nodup := h2.imp fun {x y} hxy e => by rw [e, ltG_irr] at hxy; cases hxy
  have := pigeon l ((pmL f 81).flatMap fun x => (cl a c).map fun y => (x, y)) hn (fun g hg => by
    have hg' := h1 g hg
    have h3 := (elG_spec hf hg').2
    simp only [elG, Bool.and_eq_true] at hg'
    refine List.mem_flatMap.2 ⟨g.1, (pmL_mem hf _ _ _ _).2 hg'.1.1.1, List.mem_map.2 ⟨g.2, List.mem_of_getElem? (cl_ix ha hc h3), rfl⟩⟩)
  rw [flat_len] at this
  have h4 := pm_count f hf
  have h5 : (cl a c).length ≤ 64 := by
    unfold cl
    rw [cellsL_len]
    have : ((a.toNat * c.toNat : Nat) : Int) = a * c := by rw [Int.natCast_mul, Int.toNat_of_nonneg (by omega), Int.toNat_of_nonneg (by omega)]
    omega
  have := Nat.mul_le_mul h4 h5
  omega
theorem elG_suit {f a b c : Int} (hf : 0 ≤ f ∧ f ≤ 1) (ha : 1 ≤ a ∧ a ≤ 64) (hc : 1 ≤ c ∧ c ≤ 64) {g : G6} : elG f a b c g = true ↔ (suitG f a b c g = true ∧ redG a b c g = g) := by
  constructor
  · intro h
    obtain ⟨_, h1, h2⟩ := elG_spec hf h
    simp only [elG, Bool.and_eq_true] at h
    refine ⟨?_, ?_⟩
    · simp only [suitG, suit, Bool.and_eq_true]
      exact ⟨h.1.1, okV_spec.2 (by omega)⟩
    · unfold redG redX
      rw [Int.ediv_eq_zero_of_lt h2.1 h2.2, Int.emod_eq_of_lt h2.1 h2.2, Int.zero_mul, Int.sub_zero, Int.emod_eq_of_lt h1.1 h1.2]
  · rintro ⟨h1, h2⟩
    simp only [suitG, suit, Bool.and_eq_true] at h1
    have h3 := red_lt (a := a) (b := b) (c := c) (x := g.2.1) (y := g.2.2) ha.1 hc.1
    have e1 : redX a b c g.2.1 g.2.2 = g.2.1 := congrArg (fun g : G6 => g.2.1) h2
    have e2 : g.2.2 % c = g.2.2 := congrArg (fun g : G6 => g.2.2) h2
    rw [e1, e2] at h3
    simp only [elG, Bool.and_eq_true, decide_eq_true_eq]
    exact ⟨⟨h1.1, h3.1⟩, h3.2⟩
end Go.Proofs.YtgkhakhkebjbpaaEv
namespace Go.Proofs.YtgkhakhkebjbpaaEv
open Go Go.Proofs
set_option maxRecDepth 10000
set_option maxHeartbeats 1000000
def bStr (l : List UInt8) : ByteArray := ⟨l.toArray⟩
def stdOf (s : ByteArray) (n : Int) : Option (Int × List G6) :=
  if s = ⟨#[112, 49]⟩ then some (0, []) else
  if s = ⟨#[112, 50]⟩ then some (0, [((-1, 0, 0, -1), 0, 0)]) else
  if s = ⟨#[112, 109]⟩ then some (0, [((1, 0, 0, -1), 0, 0)]) else
  if s = ⟨#[112, 103]⟩ then some (0, [((1, 0, 0, -1), n, 0)]) else
  if s = ⟨#[99, 109]⟩ then some (0, [((0, 1, 1, 0), 0, 0)]) else
  if s = ⟨#[112, 109, 109]⟩ then some (0, [((1, 0, 0, -1), 0, 0), ((-1, 0, 0, -1), 0, 0)]) else
  if s = ⟨#[112, 109, 103]⟩ then some (0, [((1, 0, 0, -1), n, 0), ((-1, 0, 0, -1), 0, 0)]) else
  if s = ⟨#[112, 103, 103]⟩ then some (0, [((1, 0, 0, -1), n, n), ((-1, 0, 0, -1), 0, 0)]) else
  if s = ⟨#[99, 109, 109]⟩ then some (0, [((0, 1, 1, 0), 0, 0), ((-1, 0, 0, -1), 0, 0)]) else
  if s = ⟨#[112, 52]⟩ then some (0, [((0, -1, 1, 0), 0, 0)]) else
  if s = ⟨#[112, 52, 109]⟩ then some (0, [((0, -1, 1, 0), 0, 0), ((1, 0, 0, -1), 0, 0)]) else
  if s = ⟨#[112, 52, 103]⟩ then some (0, [((0, -1, 1, 0), 0, 0), ((1, 0, 0, -1), n, n)]) else
  if s = ⟨#[112, 51]⟩ then some (1, [((-1, -1, 1, 0), 0, 0)]) else
  if s = ⟨#[112, 51, 109, 49]⟩ then some (1, [((-1, -1, 1, 0), 0, 0), ((0, 1, 1, 0), 0, 0)]) else
  if s = ⟨#[112, 51, 49, 109]⟩ then some (1, [((-1, -1, 1, 0), 0, 0), ((1, 1, 0, -1), 0, 0)]) else
  if s = ⟨#[112, 54]⟩ then some (1, [((0, -1, 1, 1), 0, 0)]) else
  if s = ⟨#[112, 54, 109]⟩ then some (1, [((0, -1, 1, 1), 0, 0), ((0, 1, 1, 0), 0, 0)]) else none
def cloS (n : Int) (L S : List G6) : List G6 := L.foldl (fun S m => S.foldl (fun S' g => if redG (2 * n) 0 (2 * n) (mulG m g) ∈ S' then S' else S' ++ [redG (2 * n) 0 (2 * n) (mulG m g)]) S) S
def clo (n : Int) (L : List G6) : Nat → List G6
  | 0 => [unG]
  | k + 1 => cloS n L (clo n L k)
def small1 (n : Int) (g : G6) : Bool := decide (g.1.1.natAbs ≤ 1 ∧ g.1.2.1.natAbs ≤ 1 ∧ g.1.2.2.1.natAbs ≤ 1 ∧ g.1.2.2.2.natAbs ≤ 1 ∧ 0 ≤ g.2.1 ∧ g.2.1 < 2 * n ∧ 0 ≤ g.2.2 ∧ g.2.2 < 2 * n)
/-- A small set that holds the group. -/
structure Clo (n : Int) (L S : List G6) : Prop where
  len : S.length ≤ 12
  len2 : L.length ≤ 2
  un : unG ∈ S
  sm : ∀ g ∈ S, memG (2 * n) (2 * n) g
  sl : ∀ g ∈ L, memG (2 * n) (2 * n) g
  st : ∀ m ∈ L, ∀ g ∈ S, redG (2 * n) 0 (2 * n) (mulG m g) ∈ S
def chkC (n : Int) (L S : List G6) : Bool := decide (S.length ≤ 12) && decide (L.length ≤ 2) && decide (unG ∈ S) && S.all (small1 n) && L.all (small1 n) && L.all fun m => S.all fun g => decide (redG (2 * n) 0 (2 * n) (mulG m g) ∈ S)
theorem small1_spec {n : Int} {g : G6} (h : small1 n g = true) : memG (2 * n) (2 * n) g := by
  simp only [small1, decide_eq_true_eq] at h
  exact ⟨⟨⟨h.1, h.2.1⟩, h.2.2.1, h.2.2.2.1⟩, ⟨h.2.2.2.2.1, h.2.2.2.2.2.1⟩, h.2.2.2.2.2.2.1, h.2.2.2.2.2.2.2⟩
theorem chkC_spec {n : Int} {L S : List G6} (h : chkC n L S = true) : Clo n L S := by
  simp only [chkC, Bool.and_eq_true, decide_eq_true_eq, List.all_eq_true] at h
  obtain ⟨⟨⟨⟨⟨h1, h2⟩, h3⟩, h4⟩, h5⟩, h6⟩ := h
  exact ⟨h1, h2, h3, fun g hg => small1_spec (h4 g hg), fun g hg => small1_spec (h5 g hg), h6⟩
def stdLs (n : Int) : List (List G6) := [[], [((-1, 0, 0, -1), 0, 0)], [((1, 0, 0, -1), 0, 0)], [((1, 0, 0, -1), n, 0)], [((0, 1, 1, 0), 0, 0)],
  [((1, 0, 0, -1), 0, 0), ((-1, 0, 0, -1), 0, 0)], [((1, 0, 0, -1), n, 0), ((-1, 0, 0, -1), 0, 0)], [((1, 0, 0, -1), n, n), ((-1, 0, 0, -1), 0, 0)], [((0, 1, 1, 0), 0, 0), ((-1, 0, 0, -1), 0, 0)],
  [((0, -1, 1, 0), 0, 0)], [((0, -1, 1, 0), 0, 0), ((1, 0, 0, -1), 0, 0)], [((0, -1, 1, 0), 0, 0), ((1, 0, 0, -1), n, n)], [((-1, -1, 1, 0), 0, 0)],
  [((-1, -1, 1, 0), 0, 0), ((0, 1, 1, 0), 0, 0)], [((-1, -1, 1, 0), 0, 0), ((1, 1, 0, -1), 0, 0)], [((0, -1, 1, 1), 0, 0)], [((0, -1, 1, 1), 0, 0), ((0, 1, 1, 0), 0, 0)]]
theorem std_mem {s : ByteArray} {n f : Int} {L : List G6} (h : stdOf s n = some (f, L)) : L ∈ stdLs n := by
  have key : ∀ (p : Prop) [Decidable p] (f' : Int) (L' : List G6) (r : Option (Int × List G6)), (if p then some (f', L') else r) = some (f, L) → L' ∈ stdLs n → (r = some (f, L) → L ∈ stdLs n) → L ∈ stdLs n := by
    intro p _ f' L' r h h1 h2
    by_cases hp : p
    · rw [if_pos hp] at h
      cases h
      exact h1
    · rw [if_neg hp] at h
      exact h2 h
  unfold stdOf at h
  revert h
  iterate 17 refine fun h => key _ _ _ _ h (by simp [stdLs]) ?_
  intro h
  cases h
theorem chk1 : (stdLs 1).all (fun L => chkC 1 L (clo 1 L 6)) = true := by decide +kernel
theorem chk2 : (stdLs 2).all (fun L => chkC 2 L (clo 2 L 6)) = true := by decide +kernel
theorem chk3 : (stdLs 3).all (fun L => chkC 3 L (clo 3 L 6)) = true := by decide +kernel
theorem chk4 : (stdLs 4).all (fun L => chkC 4 L (clo 4 L 6)) = true := by decide +kernel
theorem std_clo {s : ByteArray} {n f : Int} {L : List G6} (h : stdOf s n = some (f, L)) (hn : 1 ≤ n ∧ n ≤ 4) : ∃ S, Clo n L S := by
  have hm := std_mem h
  have : n = 1 ∨ n = 2 ∨ n = 3 ∨ n = 4 := by omega
  rcases this with rfl | rfl | rfl | rfl
  · exact ⟨_, chkC_spec (List.all_eq_true.1 chk1 _ hm)⟩
  · exact ⟨_, chkC_spec (List.all_eq_true.1 chk2 _ hm)⟩
  · exact ⟨_, chkC_spec (List.all_eq_true.1 chk3 _ hm)⟩
  · exact ⟨_, chkC_spec (List.all_eq_true.1 chk4 _ hm)⟩
end Go.Proofs.YtgkhakhkebjbpaaEv
namespace Go.Proofs.YtgkhakhkebjbpaaEv
open Go Go.Proofs
set_option maxRecDepth 10000
set_option maxHeartbeats 1000000
@[simp] theorem gs_take (l : List G6) (n : Nat) : (gs l).take n = gs (l.take n) := by simp [gs, List.map_take]
@[simp] theorem gs_drop (l : List G6) (n : Nat) : (gs l).drop n = gs (l.drop n) := by simp [gs, List.map_drop]
theorem gs_app2 (l k : List G6) : gs l ++ gs k = gs (l ++ k) := by simp [gs]
/-! putting into order -/
theorem lexLt_tri : ∀ {xs ys : List Int}, xs.length = ys.length → xs = ys ∨ lexLt xs ys = true ∨ lexLt ys xs = true
  | [], [], _ => .inl rfl
  | x :: xs, y :: ys, h => by
    rcases lexLt_tri (xs := xs) (ys := ys) (by simpa using h) with e | e | e
    · subst e
      rcases Int.lt_trichotomy x y with e | e | e
      · exact .inr (.inl (by simp [lexLt, e, show x ≠ y by omega]))
      · subst e; exact .inl rfl
      · exact .inr (.inr (by simp [lexLt, e, show y ≠ x by omega]))
    · rcases Int.lt_trichotomy x y with f | f | f
      · exact .inr (.inl (by simp [lexLt, f, show x ≠ y by omega]))
      · subst f; exact .inr (.inl (by simp [lexLt, e]))
      · exact .inr (.inr (by simp [lexLt, f, show y ≠ x by omega]))
    · rcases Int.lt_trichotomy x y with f | f | f
      · exact .inr (.inl (by simp [lexLt, f, show x ≠ y by omega]))
      · subst f; exact .inr (.inr (by simp [lexLt, e]))
      · exact .inr (.inr (by simp [lexLt, f, show y ≠ x by omega]))
theorem ltG_tri (g h : G6) : g = h ∨ ltG g h = true ∨ ltG h g = true := by
  rw [ltG_lex, ltG_lex]
  rcases lexLt_tri (xs := m4 g.1 ++ t2 g.2) (ys := m4 h.1 ++ t2 h.2) rfl with e | e | e
  · refine .inl ?_
    obtain ⟨⟨a, b, c, d⟩, x, y⟩ := g
    obtain ⟨⟨a', b', c', d'⟩, x', y'⟩ := h
    simpa [m4, t2, and_assoc] using e
  · exact .inr (.inl e)
  · exact .inr (.inr e)
def insG (l : List G6) (m : G6) : List G6 := l.take (plc l m) ++ m :: l.drop (plc l m)
theorem insG_mem {l : List G6} {m x : G6} : x ∈ insG l m ↔ x = m ∨ x ∈ l := by
  unfold insG
  conv => rhs; rw [← List.take_append_drop (plc l m) l]
  simp only [List.mem_append, List.mem_cons]
  constructor
  · rintro (h | h | h) <;> simp [h]
  · rintro (h | h | h) <;> simp [h]
theorem insG_len (l : List G6) (m : G6) : (insG l m).length = l.length + 1 := by
  unfold insG
  have := congrArg List.length (List.take_append_drop (plc l m) l)
  simp only [List.length_append, List.length_cons] at *
  omega
theorem plc_bef {l : List G6} {m x : G6} (h : x ∈ l.take (plc l m)) : ltG x m = true := by
  obtain ⟨j, hj, rfl⟩ := List.mem_take_iff_getElem.1 h
  have := List.not_of_lt_findIdx (p := fun x => !ltG x m) (xs := l) (i := j) (by unfold plc at hj; omega)
  simpa using this
theorem plc_aft {l : List G6} {m x : G6} (hs : srt l) (hm : m ∉ l) (h : x ∈ l.drop (plc l m)) : ltG m x = true := by
  obtain ⟨j, hj, rfl⟩ := List.mem_iff_getElem.1 h
  rw [List.getElem_drop] at h ⊢
  rw [List.length_drop] at hj
  have hlt : plc l m < l.length := by omega
  have h0 : ltG l[plc l m] m = false := by
    have := List.findIdx_getElem (p := fun x => !ltG x m) (xs := l) (w := hlt)
    rw [Bool.not_eq_true'] at this
    exact this
  have h1 : ltG m l[plc l m] = true := by
    rcases ltG_tri m l[plc l m] with e | e | e
    · exact absurd (e ▸ List.getElem_mem hlt) hm
    · exact e
    · rw [h0] at e; cases e
  rcases Nat.eq_zero_or_pos j with e | e
  · subst e; exact h1
  · exact ltG_trans h1 (srt_get hs (i := plc l m) (j := plc l m + j) (List.getElem?_eq_getElem hlt) (List.getElem?_eq_getElem (by omega)) (by omega))
theorem insG_srt {l : List G6} {m : G6} (hs : srt l) (hm : m ∉ l) : srt (insG l m) := by
  unfold srt insG
  have h0 : srt (l.take (plc l m) ++ l.drop (plc l m)) := by rw [List.take_append_drop]; exact hs
  unfold srt at h0
  rw [List.pairwise_append] at h0 ⊢
  refine ⟨h0.1, List.pairwise_cons.2 ⟨fun x hx => plc_aft hs hm hx, h0.2.1⟩, fun x hx y hy => ?_⟩
  rcases List.mem_cons.1 hy with e | e
  · rw [e]; exact plc_bef hx
  · exact h0.2.2 x hx y e
def srtL (Q : List G6) : List G6 := Q.foldl insG []
theorem srtL_app (Q : List G6) (m : G6) : srtL (Q ++ [m]) = insG (srtL Q) m := by simp [srtL, List.foldl_append]
theorem foldl_ins_mem (Q s : List G6) (x : G6) : x ∈ Q.foldl insG s ↔ x ∈ Q ∨ x ∈ s := by
  induction Q generalizing s with
  | nil => simp
  | cons m Q ih =>
    rw [List.foldl_cons, ih, insG_mem, List.mem_cons]
    constructor
    · rintro (h | h | h) <;> simp [h]
    · rintro ((h | h) | h) <;> simp [h]
theorem srtL_mem {Q : List G6} {x : G6} : x ∈ srtL Q ↔ x ∈ Q := by simp [srtL, foldl_ins_mem]
theorem foldl_ins_len (Q s : List G6) : (Q.foldl insG s).length = Q.length + s.length := by
  induction Q generalizing s with
  | nil => simp
  | cons m Q ih => rw [List.foldl_cons, ih, insG_len, List.length_cons]; omega
theorem srtL_len (Q : List G6) : (srtL Q).length = Q.length := by simp [srtL, foldl_ins_len]
theorem foldl_ins_srt (Q s : List G6) (hs : srt s) (hn : Q.Nodup) (hd : ∀ x ∈ Q, x ∉ s) : srt (Q.foldl insG s) := by
  induction Q generalizing s with
  | nil => exact hs
  | cons m Q ih =>
    rw [List.nodup_cons] at hn
    refine ih _ (insG_srt hs (hd m (by simp))) hn.2 fun x hx h => ?_
    rcases insG_mem.1 h with e | e
    · exact hn.1 (e ▸ hx)
    · exact hd x (by simp [hx]) e
theorem srtL_srt {Q : List G6} (hn : Q.Nodup) : srt (srtL Q) := foldl_ins_srt Q [] (by simp [srt]) hn (by simp)
/-! closing -/
def addG (n : Int) (g : G6) (O : List G6) (m : G6) : List G6 := if redG (2 * n) 0 (2 * n) (mulG m g) ∈ O then O else O ++ [redG (2 * n) 0 (2 * n) (mulG m g)]
def bfs (n : Int) (L : List G6) : Nat → Nat → List G6 → List G6
  | 0, _, O => O
  | f + 1, k, O => match O[k]? with
    | none => O
    | some g => bfs n L f (k + 1) (L.foldl (addG n g) O)
def grpL (n : Int) (L : List G6) : List G6 := bfs n L 13 0 [unG]
theorem bfs_end (n : Int) (L : List G6) (f k : Nat) (O : List G6) (h : O.length ≤ k) : bfs n L f k O = O := by
  cases f with
  | zero => rfl
  | succ f => rw [bfs, List.getElem?_eq_none h]
theorem bfs_step (n : Int) (L : List G6) (f k : Nat) (O : List G6) (g : G6) (h : O[k]? = some g) : bfs n L (f + 1) k O = bfs n L f (k + 1) (L.foldl (addG n g) O) := by rw [bfs, h]
structure Gd (S O : List G6) : Prop where
  nd : O.Nodup
  sub : ∀ x ∈ O, x ∈ S
  un : unG ∈ O
theorem Gd.len {n : Int} {L S O : List G6} (c : Clo n L S) (h : Gd S O) : O.length ≤ 12 := Nat.le_trans (pigeon O S h.nd h.sub) c.len
theorem Gd.add {n : Int} {L S O : List G6} (c : Clo n L S) (h : Gd S O) {m g : G6} (hm : m ∈ L) (hg : g ∈ S) : Gd S (addG n g O m) := by
  unfold addG
  split
  · exact h
  case isFalse hn =>
    refine ⟨?_, fun x hx => ?_, by simp [h.un]⟩
    · rw [List.nodup_append]
      refine ⟨h.nd, by simp, fun a ha b hb => ?_⟩
      rw [List.mem_singleton] at hb
      rintro rfl
      exact hn (hb ▸ ha)
    · rcases List.mem_append.1 hx with e | e
      · exact h.sub x e
      · rw [List.mem_singleton.1 e]; exact c.st m hm g hg
theorem Gd.one {n : Int} {L S : List G6} (c : Clo n L S) : Gd S [unG] := ⟨by simp, fun x hx => by rw [List.mem_singleton.1 hx]; exact c.un, by simp⟩
theorem addG_get {n : Int} {g m : G6} {O : List G6} {k : Nat} {x : G6} (h : O[k]? = some x) : (addG n g O m)[k]? = some x := by
  unfold addG
  split
  · exact h
  · rw [List.getElem?_append_left (List.getElem?_eq_some_iff.1 h).1, h]
/-! sorting by exchanges -/
def sw (l : List G6) (j : Nat) (a b : G6) : List G6 := (l.set (j + 1) a).set j b
def innr : Nat → List G6 → List G6
  | 0, l => l
  | j + 1, l => match l[j + 1]?, l[j]? with
    | some b, some a => if ltG b a = true then innr j (sw l j a b) else l
    | _, _ => l
def outr : Nat → List G6 → List G6
  | 0, l => l
  | 1, l => l
  | i + 2, l => innr (i + 1) (outr (i + 1) l)
theorem sw_len (l : List G6) (j : Nat) (a b : G6) : (sw l j a b).length = l.length := by simp [sw]
theorem innr_len (j : Nat) (l : List G6) : (innr j l).length = l.length := by
  induction j generalizing l with
  | zero => rfl
  | succ j ih =>
    rw [innr]
    split
    · split
      · rw [ih, sw_len]
      · rfl
    · rfl
theorem outr_len (i : Nat) (l : List G6) : (outr i l).length = l.length := by
  fun_induction outr i l with
  | case1 => rfl
  | case2 => rfl
  | case3 l i ih => rw [innr_len, ih]
theorem innr_step {j : Nat} {l : List G6} {a b : G6} (hb : l[j + 1]? = some b) (ha : l[j]? = some a) : innr (j + 1) l = if ltG b a = true then innr j (sw l j a b) else l := by rw [innr, hb, ha]
end Go.Proofs.YtgkhakhkebjbpaaEv
namespace Go.Proofs.YtgkhakhkebjbpaaEv
open Go Go.Proofs
set_option maxRecDepth 10000
set_option maxHeartbeats 1000000
@[simp] theorem gs_rep (n : Nat) (a b c d x y : Int) : List.replicate n (V.ag [.int .i64 a, .int .i64 b, .int .i64 c, .int .i64 d, .int .i64 x, .int .i64 y]) = gs (List.replicate n ((a, b, c, d), x, y)) := by simp [gs, vg]
/-! codes -/
def cellB (a c : Int) (v : Int × Int) : Bool := decide (0 ≤ v.1 ∧ v.1 ≤ a - 1) && decide (0 ≤ v.2 ∧ v.2 ≤ c - 1)
end Go.Proofs.YtgkhakhkebjbpaaEv
namespace Go.Proofs.YtgkhakhkebjbpaaEv
open Go Go.Proofs
set_option maxRecDepth 10000
set_option maxHeartbeats 2000000
theorem fA_of {α : Type} {o : Option α} {K : α → Prop} {y : α} (h : o = some y) (k : K y) : fA o K := by rw [h, fA_some]; exact k
def len8 (x : Nat) : Int := ([0, 1, 2, 2, 3, 3, 3, 3, 4, 4, 4, 4, 4] : List Int).getD x 0
/-! closing, as the program does it -/
end Go.Proofs.YtgkhakhkebjbpaaEv
namespace Go.Proofs.YtgkhakhkebjbpaaEv
open Go Go.Proofs
set_option maxRecDepth 10000
set_option maxHeartbeats 2000000
theorem s_sins (l : List G6) (m : G6) (hs : srt l) (hl : l.length ≤ 1000) (hm : m ∉ l) : Sp Try.prog 74 [.v (vgs l), aG6 m] (.sli 0) [.row 6 84 (gs (insG l m))] := by
  refine sp_of (m := no) mixed Try.func74 k74 ?_
  have hp := plc_has (m := m) hs
  have hpl : plc l m ≤ l.length := List.findIdx_le_length
  have e0 : gs (insG l m) = gs (List.take (plc l m) l ++ [((m.1.1, m.1.2.1, m.1.2.2.1, m.1.2.2.2), m.2.1, m.2.2)]) ++ gs (List.take (l.length - plc l m) (List.drop (plc l m) l)) := by
    rw [gs_app2, show List.take (l.length - plc l m) (List.drop (plc l m) l) = List.drop (plc l m) l from List.take_of_length_le (by simp)]
    simp [insG]
  simp -dsimp [q, -Prod.forall, -Prod.exists]
  refine call_of (s_place l m hs (by omega)) rfl (by simp) ?_
  try simp -dsimp
  try (first | exact fp_one (by decide) | refine fp_and (by decide) ?_)
  refine ⟨fun hlt => ⟨hlt, fun a1 a2 a3 a4 a5 a6 hx => ⟨?_, fun _ => ⟨by omega, ⟨by omega, by omega⟩, ⟨by omega, by omega⟩, by omega, ⟨by omega, by omega⟩, by decide, e0⟩⟩⟩, fun hge => ⟨by omega, ⟨by omega, by omega⟩, ⟨by omega, by omega⟩, by omega, ⟨by omega, by omega⟩, by decide, e0⟩⟩
  rintro rfl rfl rfl rfl rfl rfl
  exact hm (hp.1 ⟨hlt, hx⟩)
theorem s_sclose (n : Int) (L S : List G6) (hn : 1 ≤ n ∧ n ≤ 4) (c : Clo n L S) : Sp Try.prog 63 [aL (2 * n) 0 (2 * n), .v (vgs L)] (.sli 0) [.row 6 84 (gs (srtL (grpL n L)))] := by
  refine sp_of (m := no) mixed Try.func63 k63 ?_
  simp -dsimp [q]
  refine call_of (s_sun) rfl (by simp) ?_
  try simp -dsimp
  try (first | exact fp_one (by decide) | refine fp_and (by decide) ?_)
  refine call_of (s_sun) rfl (by simp) ?_
  try simp -dsimp
  try (first | exact fp_one (by decide) | refine fp_and (by decide) ?_)
  have hmem : ∀ g, memG (2 * n) (2 * n) g → oneM g.1 ∧ g.2.1.natAbs ≤ 1000 ∧ g.2.2.natAbs ≤ 1000 := fun g ⟨g1, g2, g3⟩ => ⟨g1, by omega, by omega⟩
  have hlen := c.len2
  refine awp_it (false :: true :: true :: false :: false :: true :: true :: true :: []) (fun s : Nat × List G6 => [(7, vi s.1)]) (fun s => [(1, .row 6 84 (gs (srtL s.2))), (2, .row 6 84 (gs s.2))]) (fun s => Gd S s.2 ∧ s.1 ≤ s.2.length ∧ bfs n L (13 - s.1) s.1 s.2 = grpL n L) (fun s => 13 - s.1) (0, [unG]) ?_
  intro s0 e
  simp -dsimp at e
  subst e
  refine ⟨?_, ?_⟩
  · exact ⟨by simp [gs, vg, srtL, insG, plc], Gd.one c, by simp, rfl⟩
  rintro ⟨k, O⟩ ⟨h1, h2, h3⟩
  simp only at h1 h2 h3
  have hO := h1.len c
  by_cases hk : k < O.length
  case neg =>
    have e : O = grpL n L := by rw [← h3, bfs_end _ _ _ _ _ (by omega)]
    have hk2 : ¬ ((k : Int) < (grpL n L).length) := by rw [← e]; omega
    simp -dsimp [hk2, -Prod.forall, -Prod.exists, e]
  obtain ⟨g, hg⟩ : ∃ g, O[k]? = some g := ⟨_, List.getElem?_eq_getElem hk⟩
  have hgS := h1.sub g (List.mem_of_getElem? hg)
  rw [show 13 - k = (12 - k) + 1 by omega, bfs_step n L _ k O g hg] at h3
  simp -dsimp [show ((k : Int) < O.length) by omega, -Prod.forall, -Prod.exists]
  refine awp_it (false :: true :: true :: false :: false :: true :: true :: true :: true :: []) (fun s : Nat × List G6 => [(8, vi s.1)]) (fun s => [(1, .row 6 84 (gs (srtL s.2))), (2, .row 6 84 (gs s.2))]) (fun s => Gd S s.2 ∧ s.2[k]? = some g ∧ s.1 ≤ L.length ∧ (L.drop s.1).foldl (addG n g) s.2 = L.foldl (addG n g) O) (fun s => L.length - s.1) (0, O) ?_
  intro s0 e
  simp -dsimp at e
  subst e
  refine ⟨?_, ?_⟩
  · exact ⟨by simp, h1, hg, by simp, rfl⟩
  rintro ⟨i, O'⟩ ⟨k1, k2, k3, k4⟩
  simp only at k1 k2 k3 k4
  have hO' := k1.len c
  by_cases hi : i < L.length
  case neg =>
    rw [List.drop_of_length_le (by omega), List.foldl_nil] at k4
    simp -dsimp [show ¬ ((i : Int) < L.length) by omega, -Prod.forall, -Prod.exists]
    have hkl := (List.getElem?_eq_some_iff.1 k2).1
    exact ⟨(k + 1, O'), ⟨by rw [w64 (by omega) (by omega)]; simp, rfl, rfl⟩, ⟨k1, by simp only; omega, by simp only; rw [k4, ← h3, show 13 - (k + 1) = 12 - k by omega]⟩, by simp only; omega⟩
  obtain ⟨m, hm⟩ : ∃ m, L[i]? = some m := ⟨_, List.getElem?_eq_getElem hi⟩
  have hmL := List.mem_of_getElem? hm
  have ga := k1.add c hmL hgS
  have mg := hmem m (c.sl m hmL)
  have kg := hmem g (c.sm g hgS)
  have kd : (L.drop (i + 1)).foldl (addG n g) (addG n g O' m) = L.foldl (addG n g) O := by
    rw [← k4]
    conv => rhs; rw [List.drop_eq_getElem_cons hi, List.foldl_cons]
    rw [(List.getElem?_eq_some_iff.1 hm).2]
  have hkl := (List.getElem?_eq_some_iff.1 k2).1
  simp -dsimp [show ((i : Int) < L.length) by omega, -Prod.forall, -Prod.exists]
  refine fun m' hm' => ?_
  rw [hm] at hm'
  cases hm'
  refine ⟨hkl, fun g' hg' => ?_⟩
  rw [k2] at hg'
  cases hg'
  refine call_of (s_sgmul m g mg kg) rfl (by simp) ?_
  try simp -dsimp
  try (first | exact fp_one (by decide) | refine fp_and (by decide) ?_)
  have q1 := mul_bd mg.1.1.1 kg.2.1
  have q2 := mul_bd mg.1.1.2 kg.2.2
  have q3 := mul_bd mg.1.2.1 kg.2.1
  have q4 := mul_bd mg.1.2.2 kg.2.2
  obtain ⟨_, mg2, mg3⟩ := mg
  refine call_of (s_sgred (2 * n) 0 (2 * n) (mulG m g) (by omega) (by omega) (by omega) (by simp only [mulG]; omega) (by simp only [mulG]; omega)) rfl (by simp) ?_
  try simp -dsimp
  try (first | exact fp_one (by decide) | refine fp_and (by decide) ?_)
  have ad : addG n g O' m = if redG (2 * n) 0 (2 * n) (mulG m g) ∈ O' then O' else O' ++ [redG (2 * n) 0 (2 * n) (mulG m g)] := rfl
  have gk := addG_get (n := n) (g := g) (m := m) k2
  generalize redG (2 * n) 0 (2 * n) (mulG m g) = p at *
  have hsr := srtL_srt k1.nd
  have hsl := srtL_len O'
  have hsm := srtL_mem (Q := O') (x := p)
  have hsa := srtL_app O' p
  refine call_of (s_shas (srtL O') p hsr (by omega)) rfl (by simp) ?_
  try simp -dsimp
  try (first | exact fp_one (by decide) | refine fp_and (by decide) ?_)
  refine ⟨fun hno => ?_, fun hyes => ⟨i + 1, O', ⟨by rw [w64 (by omega) (by omega)]; simp, rfl, rfl⟩, ?_, by omega⟩⟩
  · rw [if_neg (fun hin => hno (hsm.2 hin))] at ad
    rw [ad] at ga gk kd
    refine call_of (s_sins (srtL O') p hsr (by omega) hno) rfl (by simp) ?_
    try simp -dsimp
    try (first | exact fp_one (by decide) | refine fp_and (by decide) ?_)
    exact ⟨⟨by omega, by omega⟩, i + 1, O' ++ [p], ⟨by rw [w64 (by omega) (by omega)]; simp, hsa.symm, rfl⟩, ⟨ga, gk, by omega, kd⟩, by omega⟩
  · rw [if_pos (hsm.1 hyes)] at ad
    rw [ad] at ga gk kd
    exact ⟨ga, gk, by omega, kd⟩
end Go.Proofs.YtgkhakhkebjbpaaEv
namespace Go.Proofs.YtgkhakhkebjbpaaEv
open Go Go.Proofs
set_option maxRecDepth 10000
set_option maxHeartbeats 1000000
theorem get_findIdx {α : Type} (p : α → Bool) : ∀ l : List α, l[l.findIdx p]? = l.find? p
  | [] => rfl
  | x :: l => by
    rw [List.findIdx_cons, List.find?_cons]
    cases h : p x
    · simpa using get_findIdx p l
    · simp
theorem ite_and_two {p q : Prop} [Decidable p] [Decidable q] (h : ¬ (p ∧ q)) : (if p then (if q then (0 : Int) else 2) else 2) = 2 := by
  split
  · rw [if_neg (fun hq => h ⟨by assumption, hq⟩)]
  · rfl
def mvB (a b c : Int) (u v : Int × Int) (g : G6) : Bool := decide (mvV a b c g u = v)
theorem mvB_cdec (a b c x y x' y' : Int) (g : G6) : cdec ((mvV a b c g (x, y)).1 = x' ∧ (mvV a b c g (x, y)).2 = y') = mvB a b c (x, y) (x', y') g := by
  rw [Bool.eq_iff_iff, cdec_true, mvB, decide_eq_true_iff]
  exact ⟨fun h => Prod.ext h.1 h.2, fun h => ⟨congrArg Prod.fst h, congrArg Prod.snd h⟩⟩
theorem grp_small {f a b c : Int} {l : List G6} (hf : 0 ≤ f ∧ f ≤ 1) (ha : 1 ≤ a ∧ a ≤ 64) (hc : 1 ≤ c ∧ c ≤ 64) (h : grp f a b c l) : ∀ g ∈ l, smallG g := fun g hg => by
  have h1 := h.1.1 g (by rw [List.take_length]; exact hg)
  exact (suit_small hf ((elG_suit hf ha hc).1 h1).1).1
theorem cell_small {a c : Int} (ha : 1 ≤ a ∧ a ≤ 64) (hc : 1 ≤ c ∧ c ≤ 64) {x y : Int} (h : cellB a c (x, y) = true) : x.natAbs ≤ 1000 ∧ y.natAbs ≤ 1000 := by
  simp only [cellB, Bool.and_eq_true, decide_eq_true_eq] at h
  omega
def mvR (o : Option G6) : G6 × Int := match o with
  | some g => (g, 0)
  | none => (((0, 0, 0, 0), 0, 0), 4)
end Go.Proofs.YtgkhakhkebjbpaaEv
namespace Go.Proofs.YtgkhakhkebjbpaaEv
open Go Go.Proofs
set_option maxRecDepth 10000
set_option maxHeartbeats 1000000
theorem gs_mget (M R : List G6) (g : G6) : (gs (M ++ g :: R))[M.length]? = some (.ag [.int .i64 g.1.1, .int .i64 g.1.2.1, .int .i64 g.1.2.2.1, .int .i64 g.1.2.2.2, .int .i64 g.2.1, .int .i64 g.2.2]) := by
  simp [gs, vg]
theorem gs_mset (M R : List G6) (g : G6) (a b c d x y : Int) : (gs (M ++ g :: R)).set M.length (.ag [.int .i64 a, .int .i64 b, .int .i64 c, .int .i64 d, .int .i64 x, .int .i64 y]) = gs (M ++ ((a, b, c, d), x, y) :: R) := by
  simp [gs, vg]
theorem gs_mgetI (M R : List G6) (g : G6) : (gs (M ++ g :: R))[((M.length : Nat) : Int).toNat]? = some (.ag [.int .i64 g.1.1, .int .i64 g.1.2.1, .int .i64 g.1.2.2.1, .int .i64 g.1.2.2.2, .int .i64 g.2.1, .int .i64 g.2.2]) := by
  rw [Int.toNat_natCast, gs_mget]
theorem gs_msetI (M R : List G6) (g : G6) (a b c d x y : Int) : (gs (M ++ g :: R)).set ((M.length : Nat) : Int).toNat (.ag [.int .i64 a, .int .i64 b, .int .i64 c, .int .i64 d, .int .i64 x, .int .i64 y]) = gs (M ++ ((a, b, c, d), x, y) :: R) := by
  rw [Int.toNat_natCast, gs_mset]
def mkG (k : Int) (n : Nat) : List G6 := (List.range n).map fun i : Nat => ((k + 6 * i, k + 6 * i + 1, k + 6 * i + 2, k + 6 * i + 3), k + 6 * i + 4, k + 6 * i + 5)
theorem mkG_len (k : Int) (n : Nat) : (mkG k n).length = n := by simp [mkG]
theorem mkG_succ (k : Int) (n : Nat) : mkG k (n + 1) = mkG k n ++ [((k + 6 * n, k + 6 * n + 1, k + 6 * n + 2, k + 6 * n + 3), k + 6 * n + 4, k + 6 * n + 5)] := by simp [mkG, List.range_succ]
theorem mkG_get {k : Int} {n i : Nat} (h : i < n) : (mkG k n)[i]? = some ((k + 6 * i, k + 6 * i + 1, k + 6 * i + 2, k + 6 * i + 3), k + 6 * i + 4, k + 6 * i + 5) := by
  simp [mkG, h]
/-! stabilisers -/
def stL (a b c : Int) (v : Int × Int) (l : List G6) : List G6 := l.filter (mvB a b c v v)
theorem stL_succ {a b c : Int} {v : Int × Int} {l : List G6} {i : Nat} {g : G6} (h : l[i]? = some g) : stL a b c v (l.take (i + 1)) = if mvB a b c v v g = true then stL a b c v (l.take i) ++ [g] else stL a b c v (l.take i) := by
  unfold stL
  rw [List.take_add_one, h, List.filter_append]
  cases hm : mvB a b c v v g <;> simp [hm]
theorem stL_len (a b c : Int) (v : Int × Int) (l : List G6) : (stL a b c v l).length ≤ l.length := List.length_filter_le _ _
end Go.Proofs.YtgkhakhkebjbpaaEv
namespace Go.Proofs.YtgkhakhkebjbpaaEv
open Go Go.Proofs
set_option maxRecDepth 10000
theorem eu_out : ∀ (n : Nat) (h v : Int × Int), 0 < h.2 → 0 ≤ v.2 → v.2.natAbs ≤ n → (eu n h v).2.2 = 0 ∧ 0 < (eu n h v).1.2 ∧ (eu n h v).1.2 ∣ h.2 ∧ (eu n h v).1.2 ∣ v.2 ∧ ((eu n h v).1 = h ∨ (eu n h v).1 = v ∨ (eu n h v).1.1.natAbs * (2 * (eu n h v).1.2.natAbs) ≤ pot h v)
  | 0, h, v, hh, hv, hn => by
    have : v.2 = 0 := by omega
    rw [eu_zero this, this]
    exact ⟨rfl, hh, Int.dvd_refl _, Int.dvd_zero _, .inl rfl⟩
  | n + 1, h, v, hh, hv, hn => by
    by_cases hz : v.2 = 0
    · rw [eu_zero hz, hz]
      exact ⟨rfl, hh, Int.dvd_refl _, Int.dvd_zero _, .inl rfl⟩
    have hp := pot_step (h := h) (v := v)
    simp only [eu, if_neg hz]
    have e1 : h.2.tmod v.2 = h.2 % v.2 := Int.tmod_eq_emod_of_nonneg (by omega)
    have e2 := Int.emod_nonneg h.2 hz
    have e3 := Int.emod_lt_of_pos h.2 (show 0 < v.2 by omega)
    have e4 := Int.emod_add_mul_ediv h.2 v.2
    obtain ⟨i1, i2, i3, i4, i5⟩ := eu_out n v (h.1 - h.2.tdiv v.2 * v.1, h.2.tmod v.2) (by omega) (by simp only; omega) (by simp only; omega)
    generalize eu n v (h.1 - h.2.tdiv v.2 * v.1, h.2.tmod v.2) = r at *
    generalize hw : h.1 - h.2.tdiv v.2 * v.1 = w1 at *
    simp only at i4 i5 hp
    rw [e1] at i4 i5 hp
    refine ⟨i1, i2, ?_, i3, ?_⟩
    · rw [← e4]
      exact Int.dvd_add i4 (Int.dvd_trans i3 (Int.dvd_mul_right _ _))
    · rcases i5 with i5 | i5 | i5
      · exact .inr (.inl i5)
      · refine .inr (.inr (Nat.le_trans ?_ hp))
        rw [i5] at i2 i3 ⊢
        simp only at i2 i3 ⊢
        obtain ⟨m, hm⟩ := i3
        have hm2 : 2 ≤ m := by
          rcases Int.lt_or_le m 2 with hlt | hge
          · exfalso
            have : (h.2 % v.2 : Int) * m ≤ (h.2 % v.2) * 1 := Int.mul_le_mul_of_nonneg_left (by omega) (by omega)
            omega
          · exact hge
        have hv2 : 2 * (h.2 % v.2).natAbs ≤ v.2.natAbs := by
          have := Int.mul_le_mul_of_nonneg_left hm2 (show 0 ≤ h.2 % v.2 by omega)
          omega
        unfold pot
        exact Nat.le_trans (Nat.mul_le_mul_left _ hv2) (Nat.le_add_left _ _)
      · exact .inr (.inr (Nat.le_trans i5 hp))
theorem eu_same {n : Nat} {h v : Int × Int} (hh : 0 < h.2) (hv : 0 ≤ v.2) (hn : v.2.natAbs ≤ n) (hd : h.2 ∣ v.2) : (eu n h v).1 = h ∨ (eu n h v).1 = v := by
  by_cases hz : v.2 = 0
  · rw [eu_zero hz]; exact .inl rfl
  obtain ⟨k, rfl⟩ : ∃ k, n = k + 1 := ⟨n - 1, by omega⟩
  simp only [eu, if_neg hz]
  by_cases he : v.2 = h.2
  · right
    rw [eu_zero (by simp only; rw [he, Int.tmod_self])]
  · left
    have hlt : h.2 < v.2 := by
      have := Int.le_of_dvd (by omega) hd
      omega
    have e1 : h.2.tmod v.2 = h.2 := by rw [Int.tmod_eq_emod_of_nonneg (by omega), Int.emod_eq_of_lt (by omega) hlt]
    have e2 : h.2.tdiv v.2 = 0 := Int.tdiv_eq_zero_of_lt (by omega) hlt
    rw [e1, e2, Int.zero_mul, Int.sub_zero]
    obtain ⟨j, rfl⟩ : ∃ j, k = j + 1 := ⟨k - 1, by omega⟩
    have e3 : v.2.tmod h.2 = 0 := by
      obtain ⟨m, hm⟩ := hd
      rw [hm, Int.mul_tmod_right]
    simp only [eu]
    rw [if_neg (by omega), eu_zero (by simp only; exact e3)]
def tm (c y : Int) : Int := if c < 2 * y then 1 else if c < 4 * y then 4 else if c < 8 * y then 20 else if c < 16 * y then 168 else if c < 32 * y then 2704 else if c < 64 * y then 86560 else 5539904
theorem tm_pos (c y : Int) : 1 ≤ tm c y := by
  unfold tm
  repeat' split
  all_goals omega
theorem tm_core {c y' A X Z t K : Int} (hy' : 0 < y') (hc : 0 ≤ c) (hA : 0 ≤ A) (hK : 0 ≤ K) (hX : X ≤ A * t) (hz : Z * (2 * y') ≤ (X + A) * c) (h : c ≤ K * (2 * y')) (ht : 0 ≤ t) : Z ≤ A * ((t + 1) * K) := by
  have h1 : (X + A) * c ≤ (A * (t + 1)) * c := Int.mul_le_mul_of_nonneg_right (by rw [Int.mul_add, Int.mul_one]; omega) hc
  have h2 : (A * (t + 1)) * c ≤ (A * (t + 1)) * (K * (2 * y')) := Int.mul_le_mul_of_nonneg_left h (Int.mul_nonneg hA (by omega))
  have h3 : Z * (2 * y') ≤ (A * ((t + 1) * K)) * (2 * y') := by
    have e : (A * ((t + 1) * K)) * (2 * y') = (A * (t + 1)) * (K * (2 * y')) := by ac_rfl
    rw [e]; omega
  exact Int.le_of_mul_le_mul_right h3 (by omega)
theorem tm_next {c y y' A X Z : Int} (hy' : 0 < y') (h2 : 2 * y' ≤ y) (hy : y ≤ c) (hc : c ≤ 64) (hA : 0 ≤ A) (hX : X ≤ A * tm c y) (hz : Z * (2 * y') ≤ (X + A) * c) : Z ≤ A * tm c y' := by
  have up : ∀ t : Int, tm c y ≤ t → X ≤ A * t := fun t ht => Int.le_trans hX (Int.mul_le_mul_of_nonneg_left ht hA)
  have tmy : (c < 2 * y → tm c y ≤ 1) ∧ (c < 4 * y → tm c y ≤ 4) ∧ (c < 8 * y → tm c y ≤ 20) ∧ (c < 16 * y → tm c y ≤ 168) ∧ (c < 32 * y → tm c y ≤ 2704) ∧ (c < 64 * y → tm c y ≤ 86560) := by
    unfold tm
    repeat' split
    all_goals omega
  obtain ⟨t1, t2, t3, t4, t5, t6⟩ := tmy
  have c0 : 0 ≤ c := by omega
  unfold tm
  split
  · omega
  split
  · exact tm_core (t := 1) (K := 2) hy' c0 hA (by omega) (up 1 (t1 (by omega))) hz (by omega) (by omega)
  split
  · exact tm_core (t := 4) (K := 4) hy' c0 hA (by omega) (up 4 (t2 (by omega))) hz (by omega) (by omega)
  split
  · exact tm_core (t := 20) (K := 8) hy' c0 hA (by omega) (up 20 (t3 (by omega))) hz (by omega) (by omega)
  split
  · exact tm_core (t := 168) (K := 16) hy' c0 hA (by omega) (up 168 (t4 (by omega))) hz (by omega) (by omega)
  split
  · exact tm_core (t := 2704) (K := 32) hy' c0 hA (by omega) (up 2704 (t5 (by omega))) hz (by omega) (by omega)
  · exact tm_core (t := 86560) (K := 64) hy' c0 hA (by omega) (up 86560 (t6 (by omega))) hz (by omega) (by omega)
theorem tm_small {a c y : Int} (ha : 1 ≤ a ∧ a ≤ 64) (hc : 1 ≤ c ∧ c ≤ 64) (hac : a * c ≤ 64) (hy : 0 < y) : 0 ≤ (a - 1) * tm c y ∧ (a - 1) * tm c y ≤ 100000 := by
  have key : ∀ K : Int, K ≤ c → a * K ≤ 64 := fun K hK => Int.le_trans (Int.mul_le_mul_of_nonneg_left hK (by omega)) hac
  have k1 := key 2
  have k2 := key 4
  have k3 := key 8
  have k4 := key 16
  have k5 := key 32
  have k6 := key 64
  unfold tm
  repeat' split
  all_goals omega
structure inv (a c : Int) (s : Int × Int × Int) : Prop where
  g : 0 < s.1 ∧ s.1 ∣ a
  y : 0 < s.2.2 ∧ s.2.2 ∣ c
  x : (s.2.1.natAbs : Int) ≤ (a - 1) * tm c s.2.2
theorem gcd_facts {g r a : Int} (hg : 0 < g) (ha : g ∣ a) : 0 < (Int.gcd g r : Int) ∧ (Int.gcd g r : Int) ∣ a := by
  have h1 : (Int.gcd g r : Int) ∣ g := Int.gcd_dvd_left ..
  refine ⟨?_, Int.dvd_trans h1 ha⟩
  rcases Nat.eq_zero_or_pos (Int.gcd g r) with h | h
  · rw [h] at h1
    have := Int.zero_dvd.1 h1
    omega
  · omega
theorem inv_step {a c : Int} (ha : 1 ≤ a ∧ a ≤ 64) (hc : 1 ≤ c ∧ c ≤ 64) {s : Int × Int × Int} (h : inv a c s) {v : Int × Int} (hv : inC a c v) : inv a c (lstep s v) := by
  obtain ⟨⟨g1, g2⟩, ⟨y1, y2⟩, hx⟩ := h
  obtain ⟨⟨v1, v2⟩, v3, v4⟩ := hv
  obtain ⟨e1, e2, e3, e4, e5⟩ := eu_out v.2.natAbs s.2 v y1 v3 (Nat.le_refl _)
  have hyc := Int.le_of_dvd (by omega) y2
  have es := eu_same (n := v.2.natAbs) (h := s.2) (v := v) y1 v3 (Nat.le_refl _)
  have tp := tm_pos c s.2.2
  unfold lstep
  generalize eu v.2.natAbs s.2 v = r at *
  have tp' := tm_pos c r.1.2
  have hvx : (v.1.natAbs : Int) ≤ (a - 1) * tm c r.1.2 := by
    have := Int.mul_le_mul_of_nonneg_left tp' (show 0 ≤ a - 1 by omega)
    omega
  refine ⟨gcd_facts g1 g2, ⟨e2, Int.dvd_trans e3 y2⟩, ?_⟩
  simp only
  by_cases he : r.1.2 = s.2.2
  · rcases es (by rw [← he]; exact e4) with h | h
    · rw [h]; exact hx
    · rw [h] at hvx ⊢; exact hvx
  · have h2 : 2 * r.1.2 ≤ s.2.2 := by
      obtain ⟨m, hm⟩ := e3
      have hm2 : 2 ≤ m := by
        rcases Int.lt_or_le m 2 with h | h
        · exfalso
          rcases Int.lt_or_le m 1 with h' | h'
          · have := Int.mul_le_mul_of_nonneg_left (show m ≤ 0 by omega) (show 0 ≤ r.1.2 by omega)
            omega
          · have : m = 1 := by omega
            rw [this, Int.mul_one] at hm
            exact he hm.symm
        · exact h
      have := Int.mul_le_mul_of_nonneg_left hm2 (show 0 ≤ r.1.2 by omega)
      omega
    rcases e5 with h | h | h
    · exact absurd (by rw [h]) he
    · rw [h] at hvx ⊢; exact hvx
    · refine tm_next (y := s.2.2) e2 h2 hyc hc.2 (by omega) hx ?_
      unfold pot at h
      have q1 : s.2.1.natAbs * v.2.natAbs ≤ s.2.1.natAbs * c.toNat := Nat.mul_le_mul_left _ (by omega)
      have q2 : v.1.natAbs * s.2.2.natAbs ≤ (a - 1).toNat * c.toNat := Nat.mul_le_mul (by omega) (by omega)
      have q3 : r.1.1.natAbs * (2 * r.1.2.natAbs) ≤ (s.2.1.natAbs + (a - 1).toNat) * c.toNat := by rw [Nat.add_mul]; omega
      have q4 : ((r.1.1.natAbs * (2 * r.1.2.natAbs) : Nat) : Int) ≤ (((s.2.1.natAbs + (a - 1).toNat) * c.toNat : Nat) : Int) := Int.ofNat_le.2 q3
      rw [Int.natCast_mul, Int.natCast_mul, Int.natCast_mul, Int.natCast_add] at q4
      have w1 : ((r.1.2.natAbs : Nat) : Int) = r.1.2 := by omega
      have w2 : (((a - 1).toNat : Nat) : Int) = a - 1 := by omega
      have w3 : ((c.toNat : Nat) : Int) = c := by omega
      rw [w1, w2, w3] at q4
      exact q4
structure invS (a c : Int) (s : Int × Int × Int) : Prop where
  g : 0 < s.1 ∧ s.1 ∣ a
  y : 0 < s.2.2 ∧ s.2.2 ∣ c
  x : 0 ≤ s.2.1 ∧ s.2.1 < s.1
theorem invS_step {a c : Int} {s : Int × Int × Int} (h : invS a c s) {v : Int × Int} (hv : inC a c v) : invS a c (lstepS s v) := by
  obtain ⟨⟨g1, g2⟩, ⟨y1, y2⟩, hx⟩ := h
  obtain ⟨⟨v1, v2⟩, v3, v4⟩ := hv
  obtain ⟨e1, e2, e3, e4, e5⟩ := eu_out v.2.natAbs s.2 v y1 v3 (Nat.le_refl _)
  unfold lstepS
  generalize eu v.2.natAbs s.2 v = r at *
  have hg := gcd_facts (r := r.2.1) g1 g2
  refine ⟨hg, ⟨e2, Int.dvd_trans e3 y2⟩, ?_⟩
  simp only
  rw [if_pos hg.1]
  exact ⟨Int.emod_nonneg _ (by omega), Int.emod_lt_of_pos _ hg.1⟩
theorem fold_inv {α β : Type} {st : α → β → α} {I : α → Prop} {p : β → Prop} (h : ∀ s v, I s → p v → I (st s v)) : ∀ (M : List β) (s : α), I s → (∀ v ∈ M, p v) → I (M.foldl st s)
  | [], s, hs, _ => hs
  | v :: M, s, hs, hp => fold_inv h M _ (h s v hs (hp v List.mem_cons_self)) (fun w hw => hp w (List.mem_cons_of_mem _ hw))
theorem full_lat {a b c : Int} (h : okL a b c = true) (M : List (Int × Int)) (hM : ∀ v ∈ M, inC a c v) : ∃ A B C, okL A B C = true ∧ (lsmall ((a, 0) :: (b, c) :: M) ∧ 0 < (lfold ((a, 0) :: (b, c) :: M)).1 ∧ lfin (lfold ((a, 0) :: (b, c) :: M)) = (A, B, C)) ∧
    lsmallS ((a, 0) :: (b, c) :: M) ∧ 0 < (lfoldS ((a, 0) :: (b, c) :: M)).1 ∧ lfin (lfoldS ((a, 0) :: (b, c) :: M)) = (A, B, C) := by
  obtain ⟨ha, hc, hb, hac⟩ := okL_spec.1 h
  obtain ⟨f1, f2⟩ := lf_basis (a := a) (b := b) (c := c) (by omega) (by omega)
  rw [Int.emod_eq_of_lt hb.1 hb.2] at f2
  have g1 : ∀ N : List (Int × Int), lfold ((a, 0) :: (b, c) :: N) = N.foldl lstep (a, b, c) := fun N => by
    rw [← f1]; rfl
  have g2 : ∀ N : List (Int × Int), lfoldS ((a, 0) :: (b, c) :: N) = N.foldl lstepS (a, b, c) := fun N => by
    rw [← f2]; rfl
  have i0 : inv a c (a, b, c) := ⟨⟨by simp only; omega, Int.dvd_refl _⟩, ⟨by simp only; omega, Int.dvd_refl _⟩, by
    have := Int.mul_le_mul_of_nonneg_left (tm_pos c c) (show 0 ≤ a - 1 by omega)
    simp only
    omega⟩
  have j0 : invS a c (a, b, c) := ⟨⟨by simp only; omega, Int.dvd_refl _⟩, ⟨by simp only; omega, Int.dvd_refl _⟩, hb⟩
  have i1 : ∀ N : List (Int × Int), (∀ v ∈ N, inC a c v) → inv a c (lfold ((a, 0) :: (b, c) :: N)) := fun N hN => by
    rw [g1]; exact fold_inv (I := inv a c) (st := lstep) (p := inC a c) (fun s v hs hv => inv_step ha hc hs hv) N _ i0 hN
  have j1 : ∀ N : List (Int × Int), (∀ v ∈ N, inC a c v) → invS a c (lfoldS ((a, 0) :: (b, c) :: N)) := fun N hN => by
    rw [g2]; exact fold_inv (I := invS a c) (st := lstepS) (p := inC a c) (fun s v hs hv => invS_step hs hv) N _ j0 hN
  have tk : ∀ k, ∀ v ∈ M.take k, inC a c v := fun k v hv => hM v (List.mem_of_mem_take hv)
  have sm : ∀ v ∈ (a, 0) :: (b, c) :: M, smallV 1000000 v := by
    intro v hv
    rcases List.mem_cons.1 hv with rfl | hv
    · exact ⟨by simp only; omega, by simp⟩
    · rcases List.mem_cons.1 hv with rfl | hv
      · exact ⟨by simp only; omega, by simp only; omega⟩
      · obtain ⟨q1, q2⟩ := hM v hv
        exact ⟨by omega, by omega⟩
  obtain ⟨l1, l2⟩ := lf_one (a := a) (by omega)
  have ls : lsmall ((a, 0) :: (b, c) :: M) := by
    refine ⟨sm, fun k => ?_⟩
    match k with
    | 0 => simp [lfold, smallV]
    | 1 => simp only [List.take_succ_cons, List.take_zero, lfold, List.foldl_cons, List.foldl_nil, l1, smallV]; omega
    | k + 2 =>
      simp only [List.take_succ_cons]
      obtain ⟨⟨p1, p2⟩, ⟨p3, p4⟩, p5⟩ := i1 (M.take k) (tk k)
      have q1 := Int.le_of_dvd (by omega) p2
      have q2 := Int.le_of_dvd (by omega) p4
      have q3 := tm_small ha hc hac p3
      exact ⟨⟨by omega, by omega⟩, by omega⟩
  have lsS : lsmallS ((a, 0) :: (b, c) :: M) := by
    refine ⟨sm, fun k => ?_⟩
    match k with
    | 0 => simp [lfoldS, smallV]
    | 1 => simp only [List.take_succ_cons, List.take_zero, lfoldS, List.foldl_cons, List.foldl_nil, l2, smallV]; omega
    | k + 2 =>
      simp only [List.take_succ_cons]
      obtain ⟨⟨p1, p2⟩, ⟨p3, p4⟩, p5⟩ := j1 (M.take k) (tk k)
      have q1 := Int.le_of_dvd (by omega) p2
      have q2 := Int.le_of_dvd (by omega) p4
      exact ⟨⟨by omega, by omega⟩, by omega⟩
  have iM := i1 M hM
  have jM := j1 M hM
  generalize hL : (a, 0) :: (b, c) :: M = L at *
  -- one lattice, one form
  have form : ∀ s : Int × Int × Int, 0 < s.1 → 0 < s.2.2 → (lfin s).1 = s.1 ∧ (0 ≤ (lfin s).2.1 ∧ (lfin s).2.1 < s.1) ∧ (lfin s).2.2 = s.2.2 := fun s h1 h2 => by
    refine ⟨rfl, ⟨Int.emod_nonneg _ (by omega), Int.emod_lt_of_pos _ h1⟩, ?_⟩
    simp only [lfin]
    rw [if_neg (by omega)]
  obtain ⟨p1, p2, p3⟩ := form _ iM.g.1 iM.y.1
  obtain ⟨r1, r2, r3⟩ := form _ jM.g.1 jM.y.1
  have sub1 : ∀ {Λ : Int → Int → Prop}, Sub Λ → ((Λ (lfin (lfold L)).1 0 ∧ Λ (lfin (lfold L)).2.1 (lfin (lfold L)).2.2) ↔ ∀ v ∈ L, Λ v.1 v.2) := fun s => (sub_lfin s _).trans (sub_lfold s L)
  have sub2 : ∀ {Λ : Int → Int → Prop}, Sub Λ → ((Λ (lfin (lfoldS L)).1 0 ∧ Λ (lfin (lfoldS L)).2.1 (lfin (lfoldS L)).2.2) ↔ ∀ v ∈ L, Λ v.1 v.2) := fun s => (sub_lfin s _).trans (sub_lfoldS s L)
  have gi := iM.g
  have yi := iM.y
  have gj := jM.g
  have yj := jM.y
  rw [← p1] at gi p2
  rw [← p3] at yi
  rw [← r1] at gj r2
  rw [← r3] at yj
  generalize lfin (lfold L) = R at *
  generalize lfin (lfoldS L) = T at *
  obtain ⟨A, B, C⟩ := R
  obtain ⟨A', B', C'⟩ := T
  simp only at *
  have m1 := (sub2 (spn_sub A B C)).2 ((sub1 (spn_sub A B C)).1 ⟨spn_l _ _ _, spn_r _ _ _⟩)
  have m2 := (sub1 (spn_sub A' B' C')).2 ((sub2 (spn_sub A' B' C')).1 ⟨spn_l _ _ _, spn_r _ _ _⟩)
  have e := spn_uniq gi.1 p2 yi.1 gj.1 r2 yj.1 m2.1 m2.2 m1.1 m1.2
  have q1 := Int.le_of_dvd (by omega) gi.2
  have q2 := Int.le_of_dvd (by omega) yi.2
  have q3 : A * C ≤ a * c := Int.mul_le_mul q1 q2 (by omega) (by omega)
  exact ⟨A, B, C, okL_spec.2 ⟨⟨by omega, by omega⟩, ⟨by omega, by omega⟩, p2, by omega⟩, ⟨ls, iM.g.1, rfl⟩, lsS, jM.g.1, e.symm⟩
end Go.Proofs.YtgkhakhkebjbpaaEv
namespace Go.Proofs.YtgkhakhkebjbpaaEv
open Go Go.Proofs
set_option maxRecDepth 10000
set_option maxHeartbeats 1000000
def imG (g : G6) (v : Int × Int) : Int × Int := (g.1.1 * v.1 + g.1.2.1 * v.2 + g.2.1, g.1.2.2.1 * v.1 + g.1.2.2.2 * v.2 + g.2.2)
def kp1 (a b c : Int) (l : List Int) (g : G6) (v : Int × Int) : Bool := decide (l.getD (num a b c (imG g v).1 (imG g v).2).toNat 0 = l.getD (num a b c v.1 v.2).toNat 0)
def kpB (a b c : Int) (l : List Int) (g : G6) : Bool := (cl a c).all (kp1 a b c l g)
theorem all_hit {α : Type} {l : List α} {p : α → Bool} {i : Nat} {z : α} (hz : l[i]? = some z) (hp : p z = false) : l.all p = false := by
  rw [List.all_eq_false]
  exact ⟨z, List.mem_of_getElem? hz, by rw [hp]; simp⟩
theorem all_done {α : Type} {l : List α} {p : α → Bool} {i : Nat} (hi : l.length ≤ i) (hn : ∀ x ∈ l.take i, p x = true) : l.all p = true := by
  rw [List.take_of_length_le hi] at hn
  exact List.all_eq_true.2 hn
theorem all_next {α : Type} {l : List α} {p : α → Bool} {i : Nat} {z : α} (hz : l[i]? = some z) (hn : ∀ x ∈ l.take i, p x = true) (hp : p z = true) : ∀ x ∈ l.take (i + 1), p x = true := by
  intro x hx
  rcases mem_take_succ hz hx with h | h
  · exact hn _ h
  · rw [h]; exact hp
theorem im_bd {g : G6} (hg : smallG g) {x y : Int} (hx : 0 ≤ x ∧ x < 64) (hy : 0 ≤ y ∧ y < 64) : (imG g (x, y)).1.natAbs ≤ 1000000 ∧ (imG g (x, y)).2.natAbs ≤ 1000000 := by
  obtain ⟨g1, g2, g3⟩ := hg
  have h1 := mul_bd g1.1 (show x.natAbs ≤ 64 by omega)
  have h2 := mul_bd g1.2 (show y.natAbs ≤ 64 by omega)
  have h3 := mul_bd g2.1 (show x.natAbs ≤ 64 by omega)
  have h4 := mul_bd g2.2 (show y.natAbs ≤ 64 by omega)
  simp only [imG]
  omega
theorem small_tr {a c x y : Int} (ha : 1 ≤ a ∧ a ≤ 64) (hc : 1 ≤ c ∧ c ≤ 64) (h : (0 ≤ x ∧ x < a) ∧ 0 ≤ y ∧ y < c) : smallG ((1, 0, 0, 1), x, y) := by
  unfold smallG
  simp only
  omega
abbrev kpV (a b c : Int) (l : List Int) (v : Int × Int) : Bool := kpB a b c l ((1, 0, 0, 1), v)
def fuL (a b c : Int) (l : List Int) (n : Nat) : List (Int × Int) := (a, 0) :: (b, c) :: ((cl a c).take n).filter (kpV a b c l)
theorem fuL_zero (a b c : Int) (l : List Int) : fuL a b c l 0 = [(a, 0), (b, c)] := rfl
theorem fuL_succ {a b c : Int} {l : List Int} {n : Nat} {v : Int × Int} (h : (cl a c)[n]? = some v) : fuL a b c l (n + 1) = if kpV a b c l v = true then fuL a b c l n ++ [v] else fuL a b c l n := by
  unfold fuL
  rw [List.take_add_one, h, List.filter_append]
  cases hm : kpV a b c l v <;> simp [hm]
theorem fuL_len (a b c : Int) (l : List Int) (n : Nat) : (fuL a b c l n).length ≤ n + 2 := by
  have := List.length_filter_le (kpV a b c l) ((cl a c).take n)
  rw [List.length_take] at this
  simp only [fuL, List.length_cons]
  omega
theorem fuL_lat {a b c : Int} (h : okL a b c = true) (l : List Int) (n : Nat) : ∃ A B C, okL A B C = true ∧ (lsmall (fuL a b c l n) ∧ 0 < (lfold (fuL a b c l n)).1 ∧ lfin (lfold (fuL a b c l n)) = (A, B, C)) ∧ lsmallS (fuL a b c l n) ∧ 0 < (lfoldS (fuL a b c l n)).1 ∧ lfin (lfoldS (fuL a b c l n)) = (A, B, C) := by
  obtain ⟨ha, hc, hb, hac⟩ := okL_spec.1 h
  refine full_lat h _ (fun v hv => ?_)
  have h1 := List.mem_of_mem_take (List.mem_filter.1 hv).1
  obtain ⟨i, hi⟩ := List.mem_iff_getElem?.1 h1
  exact (cl_at ha.1 hc.1 hi).1
def lnL (a b c A C : Int) (l : List Int) (n : Nat) : List Int := ((cl A C).take n).map fun v => l.getD (num a b c v.1 v.2).toNat 0
theorem lnL_succ {a b c A C : Int} {l : List Int} {n : Nat} {v : Int × Int} (h : (cl A C)[n]? = some v) : lnL a b c A C l (n + 1) = lnL a b c A C l n ++ [l.getD (num a b c v.1 v.2).toNat 0] := by
  simp [lnL, List.take_add_one, h]
theorem lnL_len (a b c A C : Int) (l : List Int) (n : Nat) : (lnL a b c A C l n).length = min n (cl A C).length := by simp [lnL]
theorem nat_ac1 {a c : Int} (ha : 1 ≤ a) (hc : 1 ≤ c) : 0 < a.toNat * c.toNat := Nat.mul_pos (by omega) (by omega)
theorem lnL_ok {f a b c A' B' C' : Int} {l : List Int} (hf : okP f a b c l = true) (h : okL A' B' C' = true) {N : Nat} (hN : A'.toNat * C'.toNat = N) : okP f A' B' C' (lnL a b c A' C' l N) = true := by
  obtain ⟨h1, h2, h3, h4⟩ := okP_spec.1 hf
  obtain ⟨ha, hc, hb, hac⟩ := okL_spec.1 h
  refine okP_spec.2 ⟨h1, h, ?_, fun n hn => ?_⟩
  · rw [lnL_len, cellsL_len, hN, Nat.min_self, ← hN, Int.natCast_mul, Int.toNat_of_nonneg (by omega), Int.toNat_of_nonneg (by omega)]
  · obtain ⟨v, _, rfl⟩ := List.mem_map.1 hn
    rw [List.getD_eq_getElem?_getD]
    cases he : l[(num a b c v.1 v.2).toNat]? with
    | none => simp
    | some z => exact h4 _ (List.mem_of_getElem? he)
end Go.Proofs.YtgkhakhkebjbpaaEv
namespace Go.Proofs.YtgkhakhkebjbpaaEv
open Go Go.Proofs
set_option maxRecDepth 10000
set_option maxHeartbeats 1000000
theorem s_smats (f : Int) (hf : 0 ≤ f ∧ f ≤ 1) : Sp Try.prog 77 [vi f] (.sli 0) [.row 4 82 (ms (pmL f 81))] := by
  refine sp_of (m := no) mixed Try.func77 k77 ?_
  simp -dsimp [q]
  refine awp_it (true :: false :: false :: true :: true :: []) (fun i : Nat => [(4, vi i)]) (fun i => [(0, .row 4 82 (ms (pmL f i)))]) (fun i => i ≤ 81) (fun i => 81 - i) 0 ?_
  intro s0 e
  simp -dsimp at e
  subst e
  refine ⟨?_, ?_⟩
  · simp [pmL]
  intro i hi
  have hlen := pmL_len f i
  have hs := pmL_succ f i
  have a1 : IntKind.i64.wrap ((i : Int) / 27) = (i : Int) / 27 := w64 (by omega) (by omega)
  have a2 : IntKind.i64.wrap ((i : Int) / 9) = (i : Int) / 9 := w64 (by omega) (by omega)
  have a3 : IntKind.i64.wrap ((i : Int) / 3) = (i : Int) / 3 := w64 (by omega) (by omega)
  have b2 : ((i : Int) / 9).tmod 3 = (i : Int) / 9 % 3 := Int.tmod_eq_emod_of_nonneg (by omega)
  have b3 : ((i : Int) / 3).tmod 3 = (i : Int) / 3 % 3 := Int.tmod_eq_emod_of_nonneg (by omega)
  have b4 : (i : Int).tmod 3 = (i : Int) % 3 := Int.tmod_eq_emod_of_nonneg (by omega)
  have c1 : IntKind.i64.wrap ((i : Int) / 27 - 1) = (i : Int) / 27 - 1 := w64 (by omega) (by omega)
  have c2 : IntKind.i64.wrap ((i : Int) / 9 % 3 - 1) = (i : Int) / 9 % 3 - 1 := w64 (by omega) (by omega)
  have c3 : IntKind.i64.wrap ((i : Int) / 3 % 3 - 1) = (i : Int) / 3 % 3 - 1 := w64 (by omega) (by omega)
  have c4 : IntKind.i64.wrap ((i : Int) % 3 - 1) = (i : Int) % 3 - 1 := w64 (by omega) (by omega)
  have d1 : -1 ≤ (i : Int) / 27 - 1 ∧ ((i : Int) < 81 → (i : Int) / 27 - 1 ≤ 1) := ⟨by omega, by omega⟩
  have d2 : -1 ≤ (i : Int) / 9 % 3 - 1 ∧ (i : Int) / 9 % 3 - 1 ≤ 1 := ⟨by omega, by omega⟩
  have d3 : -1 ≤ (i : Int) / 3 % 3 - 1 ∧ (i : Int) / 3 % 3 - 1 ≤ 1 := ⟨by omega, by omega⟩
  have d4 : -1 ≤ (i : Int) % 3 - 1 ∧ (i : Int) % 3 - 1 ≤ 1 := ⟨by omega, by omega⟩
  have hmat : mat81 i = ((i : Int) / 27 - 1, (i : Int) / 9 % 3 - 1, (i : Int) / 3 % 3 - 1, (i : Int) % 3 - 1) := rfl
  simp -dsimp [a1, a2, a3, b2, b3, b4, c1, c2, c3, c4]
  refine ⟨fun h1 => ?_, fun h1 => ?_⟩
  · generalize (i : Int) / 27 - 1 = a at *
    generalize (i : Int) / 9 % 3 - 1 = b at *
    generalize (i : Int) / 3 % 3 - 1 = c at *
    generalize (i : Int) % 3 - 1 = d at *
    have d1' := d1.2 (by omega)
    rw [hmat] at hs
    refine call_of (s_skeeps f a b c d hf ⟨⟨by omega, by omega⟩, by omega, by omega⟩) rfl (by simp) ?_
    try simp -dsimp
    try (first | exact fp_one (by decide) | refine fp_and (by decide) ?_)
    refine ⟨fun e => ?_, fun e => ?_⟩
    · rw [if_pos e] at hs
      refine ⟨⟨by omega, by omega⟩, i + 1, ?_, by omega, by omega⟩
      exact ⟨by rw [w64 (by omega) (by omega)]; simp, by rw [hs]⟩
    · rw [if_neg (by rw [e]; simp)] at hs
      rw [List.append_nil] at hs
      exact ⟨i + 1, ⟨by rw [w64 (by omega) (by omega)]; simp, by rw [hs]⟩, by omega, by omega⟩
  · rw [show i = 81 by omega]
abbrev mtL (f a b c : Int) : List M4 := (pmL f 81).filter fun m => keepL a b c m
theorem flt_succ {α : Type} {p : α → Bool} {l : List α} {i : Nat} {g : α} (h : l[i]? = some g) : (l.take (i + 1)).filter p = if p g = true then (l.take i).filter p ++ [g] else (l.take i).filter p := by
  rw [List.take_add_one, h, List.filter_append]
  cases hm : p g <;> simp [hm]
theorem flt_len {α : Type} (p : α → Bool) (l : List α) (i : Nat) : ((l.take i).filter p).length ≤ i := by
  have := List.length_filter_le p (l.take i)
  rw [List.length_take] at this
  omega
theorem s_stable (f a b c : Int) (hf : 0 ≤ f ∧ f ≤ 1) (h : okL a b c = true) : Sp Try.prog 71 [vi f, aL a b c] (.v (vms (mtL f a b c))) [] := by
  have hlen := pmL_len f 81
  refine sp_of (m := no) mixed Try.func71 k71 ?_
  simp -dsimp [q]
  refine call_of (s_smats f hf) rfl (by simp) ?_
  try simp -dsimp
  try (first | exact fp_one (by decide) | refine fp_and (by decide) ?_)
  refine awp_it (false :: false :: false :: true :: false :: true :: true :: true :: []) (fun i : Nat => [(7, vi i)]) (fun i => [(2, .row 4 82 (ms (((pmL f 81).take i).filter fun m => keepL a b c m)))]) (fun i => i ≤ (pmL f 81).length) (fun i => (pmL f 81).length - i) 0 ?_
  intro s0 e
  simp -dsimp at e
  subst e
  refine ⟨?_, ?_⟩
  · simp
  intro i hi
  have hfl := flt_len (fun m => keepL a b c m) (pmL f 81) i
  simp -dsimp [-Prod.forall, -Prod.exists]
  refine ⟨fun h5 => ⟨h5, fun m hm => ?_⟩, fun h5 => ?_⟩
  · have hpm := List.mem_of_getElem? hm
    obtain ⟨p, q', r, s⟩ := m
    obtain ⟨A', B', C', hk, w1⟩ := s_simage a b c p q' r s h (pm_facts hf ((pmL_mem hf _ _ _ _).1 hpm))
    have hsu := flt_succ (p := fun m => keepL a b c m) hm
    refine call_of (w1) rfl (by simp) ?_
    try simp -dsimp
    try (first | exact fp_one (by decide) | refine fp_and (by decide) ?_)
    refine ⟨?_, fun e => ?_⟩
    · rintro rfl rfl rfl
      refine ⟨h5, fun p1 p2 p3 p4 hm' => ?_⟩
      rw [hm] at hm'
      cases hm'
      refine ⟨⟨by omega, by omega⟩, i + 1, ⟨by rw [w64 (by omega) (by omega)]; simp, ?_⟩, by omega, by omega⟩
      rw [hsu, if_pos (hk.1 rfl)]
    · refine ⟨i + 1, ⟨by rw [w64 (by omega) (by omega)]; simp, ?_⟩, by omega, by omega⟩
      rw [hsu, if_neg (fun hkk => by
        have := hk.2 hkk
        simp only [Prod.mk.injEq] at this
        exact e this.1 this.2.1 this.2.2)]
  · rw [List.take_of_length_le h5]
def rwG (a b c : Int) (l : List Int) (m : M4) (k : Nat) : List G6 := (((cl a c).take k).filter fun v => kpB a b c l (m, v)).map fun v => (m, v)
theorem rwG_succ {a b c : Int} {l : List Int} {m : M4} {k : Nat} {v : Int × Int} (h : (cl a c)[k]? = some v) : rwG a b c l m (k + 1) = if kpB a b c l (m, v) = true then rwG a b c l m k ++ [(m, v)] else rwG a b c l m k := by
  unfold rwG
  rw [flt_succ h]
  cases hm : kpB a b c l (m, v) <;> simp
theorem rwG_len (a b c : Int) (l : List Int) (m : M4) (k : Nat) : (rwG a b c l m k).length ≤ k := by
  rw [rwG, List.length_map]
  exact flt_len _ _ _
def gpG (a b c : Int) (l : List Int) (M : List M4) : List G6 := M.flatMap fun m => rwG a b c l m (cl a c).length
theorem gpG_succ {a b c : Int} {l : List Int} {M : List M4} {i : Nat} {m : M4} (h : M[i]? = some m) : gpG a b c l (M.take (i + 1)) = gpG a b c l (M.take i) ++ rwG a b c l m (cl a c).length := by
  simp [gpG, List.take_add_one, h]
theorem gpG_len (a b c : Int) (l : List Int) : ∀ M : List M4, (gpG a b c l M).length ≤ M.length * (cl a c).length
  | [] => by simp [gpG]
  | m :: M => by
    have h1 := rwG_len a b c l m (cl a c).length
    have h2 := gpG_len a b c l M
    rw [show gpG a b c l (m :: M) = rwG a b c l m (cl a c).length ++ gpG a b c l M from rfl, List.length_append, List.length_cons, Nat.add_mul, Nat.one_mul]
    omega
theorem mt_small {f a b c : Int} {m : M4} (h : m ∈ mtL f a b c) : (m.1.natAbs ≤ 1 ∧ m.2.1.natAbs ≤ 1) ∧ m.2.2.1.natAbs ≤ 1 ∧ m.2.2.2.natAbs ≤ 1 := pmL_small (Nat.le_refl _) (List.mem_filter.1 h).1
theorem mt_G {f a b c : Int} {m : M4} (h : m ∈ mtL f a b c) {x y : Int} (ha : 1 ≤ a ∧ a ≤ 64) (hc : 1 ≤ c ∧ c ≤ 64) (k : (0 ≤ x ∧ x < a) ∧ 0 ≤ y ∧ y < c) : smallG (m, x, y) := by
  obtain ⟨h1, h2⟩ := mt_small h
  unfold smallG
  simp only
  omega
theorem gp_small {f a b c : Int} {l : List Int} (ha : 1 ≤ a ∧ a ≤ 64) (hc : 1 ≤ c ∧ c ≤ 64) : ∀ g ∈ gpG a b c l (mtL f a b c), smallG g := by
  intro g hg
  obtain ⟨m, hm, hg⟩ := List.mem_flatMap.1 hg
  obtain ⟨v, hv, rfl⟩ := List.mem_map.1 hg
  obtain ⟨i, hi⟩ := List.mem_iff_getElem?.1 (List.mem_of_mem_take (List.mem_filter.1 hv).1)
  exact mt_G hm ha hc (cl_at ha.1 hc.1 hi).1
end Go.Proofs.YtgkhakhkebjbpaaEv
namespace Go.Proofs.YtgkhakhkebjbpaaEv
open Go Go.Proofs
set_option maxRecDepth 100000
set_option maxHeartbeats 2000000
theorem pm_mul_all (f : Int) (hf : f = 0 ∨ f = 1) : ((pmL f 81).all fun m => (pmL f 81).all fun g => pmOk f (mulM m g)) = true := by
  rcases hf with rfl | rfl <;> decide +kernel
theorem pm_mul {f : Int} (hf : 0 ≤ f ∧ f ≤ 1) {m g : M4} (hm : pmOk f m = true) (hg : pmOk f g = true) : pmOk f (mulM m g) = true := by
  have h := pm_mul_all f (by omega)
  rw [List.all_eq_true] at h
  have h2 := h m ((pmL_mem hf _ _ _ _).2 hm)
  rw [List.all_eq_true] at h2
  exact h2 g ((pmL_mem hf _ _ _ _).2 hg)
theorem keep_spn {a b c : Int} (hc : 1 ≤ c) {m : M4} : keepL a b c m = true ↔ spn a b c (m.1 * a) (m.2.2.1 * a) ∧ spn a b c (m.1 * b + m.2.1 * c) (m.2.2.1 * b + m.2.2.2 * c) := by
  unfold keepL
  rw [Bool.and_eq_true, inL_spn hc, inL_spn hc]
theorem spn_map {a b c : Int} {m : M4} (h1 : spn a b c (m.1 * a) (m.2.2.1 * a)) (h2 : spn a b c (m.1 * b + m.2.1 * c) (m.2.2.1 * b + m.2.2.2 * c)) {x y : Int} (h : spn a b c x y) : spn a b c (m.1 * x + m.2.1 * y) (m.2.2.1 * x + m.2.2.2 * y) := by
  obtain ⟨i, j, rfl, rfl⟩ := h
  obtain ⟨i1, j1, e1, e2⟩ := h1
  obtain ⟨i2, j2, e3, e4⟩ := h2
  refine ⟨i * i1 + j * i2, i * j1 + j * j2, ?_, ?_⟩
  · have : m.1 * (i * a + j * b) + m.2.1 * (j * c) = i * (m.1 * a) + j * (m.1 * b + m.2.1 * c) := by
      simp only [Int.mul_add, Int.mul_left_comm, Int.add_assoc]
    rw [this, e1, e3]
    simp only [Int.mul_add, Int.add_mul, Int.mul_assoc]
    omega
  · have : m.2.2.1 * (i * a + j * b) + m.2.2.2 * (j * c) = i * (m.2.2.1 * a) + j * (m.2.2.1 * b + m.2.2.2 * c) := by
      simp only [Int.mul_add, Int.mul_left_comm, Int.add_assoc]
    rw [this, e2, e4]
    simp only [Int.mul_add, Int.add_mul, Int.mul_assoc]
theorem keep_mul {a b c : Int} (hc : 1 ≤ c) {m g : M4} (hm : keepL a b c m = true) (hg : keepL a b c g = true) : keepL a b c (mulM m g) = true := by
  rw [keep_spn hc] at hm hg ⊢
  have h1 := spn_map hm.1 hm.2 hg.1
  have h2 := spn_map hm.1 hm.2 hg.2
  simp only [mulM]
  refine ⟨?_, ?_⟩
  · have e1 : (m.1 * g.1 + m.2.1 * g.2.2.1) * a = m.1 * (g.1 * a) + m.2.1 * (g.2.2.1 * a) := by rw [Int.add_mul, Int.mul_assoc, Int.mul_assoc]
    have e2 : (m.2.2.1 * g.1 + m.2.2.2 * g.2.2.1) * a = m.2.2.1 * (g.1 * a) + m.2.2.2 * (g.2.2.1 * a) := by rw [Int.add_mul, Int.mul_assoc, Int.mul_assoc]
    rw [e1, e2]
    exact h1
  · have e1 : (m.1 * g.1 + m.2.1 * g.2.2.1) * b + (m.1 * g.2.1 + m.2.1 * g.2.2.2) * c = m.1 * (g.1 * b + g.2.1 * c) + m.2.1 * (g.2.2.1 * b + g.2.2.2 * c) := by
      simp only [Int.mul_add, Int.add_mul, Int.mul_assoc]
      omega
    have e2 : (m.2.2.1 * g.1 + m.2.2.2 * g.2.2.1) * b + (m.2.2.1 * g.2.1 + m.2.2.2 * g.2.2.2) * c = m.2.2.1 * (g.1 * b + g.2.1 * c) + m.2.2.2 * (g.2.2.1 * b + g.2.2.2 * c) := by
      simp only [Int.mul_add, Int.add_mul, Int.mul_assoc]
      omega
    rw [e1, e2]
    exact h2
theorem red_in {a b c : Int} (ha : 1 ≤ a) (hc : 1 ≤ c) (x y : Int) : (0 ≤ redX a b c x y ∧ redX a b c x y < a) ∧ 0 ≤ y % c ∧ y % c < c :=
  ⟨⟨Int.emod_nonneg _ (by omega), Int.emod_lt_of_pos _ (by omega)⟩, Int.emod_nonneg _ (by omega), Int.emod_lt_of_pos _ (by omega)⟩
theorem el_red {f a b c : Int} (ha : 1 ≤ a) (hc : 1 ≤ c) {g : G6} (h1 : pmOk f g.1 = true) (h2 : keepL a b c g.1 = true) : elG f a b c (redG a b c g) = true := by
  have h := red_in (b := b) ha hc g.2.1 g.2.2
  show (pmOk f g.1 && keepL a b c g.1 && decide (0 ≤ redX a b c g.2.1 g.2.2 ∧ redX a b c g.2.1 g.2.2 < a) && decide (0 ≤ g.2.2 % c ∧ g.2.2 % c < c)) = true
  rw [h1, h2, decide_eq_true h.1, decide_eq_true h.2]
  rfl
theorem el_mul {f a b c : Int} (hf : 0 ≤ f ∧ f ≤ 1) (ha : 1 ≤ a) (hc : 1 ≤ c) {m g : G6} (hm : elG f a b c m = true) (hg : elG f a b c g = true) : elG f a b c (redG a b c (mulG m g)) = true := by
  simp only [elG, Bool.and_eq_true, decide_eq_true_eq] at hm hg
  exact el_red ha hc (pm_mul hf hm.1.1.1 hg.1.1.1) (keep_mul hc hm.1.1.2 hg.1.1.2)
theorem el_un {f a b c : Int} (hf : 0 ≤ f ∧ f ≤ 1) (ha : 1 ≤ a) (hc : 1 ≤ c) : elG f a b c unG = true := by
  have h1 : pmOk f (1, 0, 0, 1) = true := by
    have : f = 0 ∨ f = 1 := by omega
    rcases this with rfl | rfl <;> decide
  have h2 : keepL a b c (1, 0, 0, 1) = true := by
    rw [keep_spn hc]
    exact ⟨⟨1, 0, by simp, by simp⟩, ⟨0, 1, by simp, by simp⟩⟩
  simp only [elG, unG, h1, h2, Bool.true_and, Bool.and_eq_true, decide_eq_true_eq]
  omega
def allG (f a b c : Int) : List G6 := (mtL f a b c).flatMap fun m => (cl a c).map fun v => (m, v)
theorem allG_mem {f a b c : Int} (hf : 0 ≤ f ∧ f ≤ 1) (ha : 1 ≤ a) (hc : 1 ≤ c) {g : G6} (h : elG f a b c g = true) : g ∈ allG f a b c := by
  simp only [elG, Bool.and_eq_true, decide_eq_true_eq] at h
  have hv := cl_ix ha hc (v := g.2) ⟨h.1.2, h.2⟩
  exact List.mem_flatMap.2 ⟨g.1, List.mem_filter.2 ⟨(pmL_mem hf _ _ _ _).2 h.1.1.1, h.1.1.2⟩, List.mem_map.2 ⟨g.2, List.mem_of_getElem? hv, rfl⟩⟩
theorem flatG_len {α β : Type} (g : α → List β) (n : Nat) : ∀ l : List α, (∀ x ∈ l, (g x).length = n) → (l.flatMap g).length = l.length * n
  | [], _ => by simp
  | x :: l, h => by
    rw [List.flatMap_cons, List.length_append, h x (by simp), flatG_len g n l (fun y hy => h y (List.mem_cons_of_mem _ hy)), List.length_cons, Nat.add_mul]
    omega
theorem allG_len {f a b c : Int} (hf : 0 ≤ f ∧ f ≤ 1) (h : okL a b c = true) : (allG f a b c).length ≤ 768 := by
  obtain ⟨ha, hc, hb, hac⟩ := okL_spec.1 h
  have hM : (mtL f a b c).length ≤ 12 := Nat.le_trans (List.length_filter_le _ _) (pm_count f hf)
  have hcl : (cl a c).length ≤ 64 := by
    rw [cellsL_len]
    have e : ((a.toNat * c.toNat : Nat) : Int) = a * c := by
      rw [Int.natCast_mul, Int.toNat_of_nonneg (by omega), Int.toNat_of_nonneg (by omega)]
    omega
  unfold allG
  rw [flatG_len _ (cl a c).length _ (fun m _ => by simp)]
  exact Nat.mul_le_mul hM hcl
def adG (a b c : Int) (g : G6) (O : List G6) (m : G6) : List G6 := if redG a b c (mulG m g) ∈ O then O else O ++ [redG a b c (mulG m g)]
def bfG (a b c : Int) (L : List G6) : Nat → Nat → List G6 → List G6
  | 0, _, O => O
  | f + 1, k, O => match O[k]? with
    | none => O
    | some g => bfG a b c L f (k + 1) (L.foldl (adG a b c g) O)
theorem bfG_end (a b c : Int) (L : List G6) (f k : Nat) (O : List G6) (h : O.length ≤ k) : bfG a b c L f k O = O := by
  cases f with
  | zero => rfl
  | succ f => rw [bfG, List.getElem?_eq_none h]
theorem bfG_step (a b c : Int) (L : List G6) (f k : Nat) (O : List G6) (g : G6) (h : O[k]? = some g) : bfG a b c L (f + 1) k O = bfG a b c L f (k + 1) (L.foldl (adG a b c g) O) := by rw [bfG, h]
/-- What is found so far. -/
structure Gd2 (f a b c : Int) (O : List G6) : Prop where
  nd : O.Nodup
  sub : ∀ x ∈ O, elG f a b c x = true
  un : unG ∈ O
theorem Gd2.len {f a b c : Int} (hf : 0 ≤ f ∧ f ≤ 1) (h : okL a b c = true) {O : List G6} (g : Gd2 f a b c O) : O.length ≤ 768 := by
  obtain ⟨ha, hc, _, _⟩ := okL_spec.1 h
  exact Nat.le_trans (pigeon O _ g.nd fun x hx => allG_mem hf ha.1 hc.1 (g.sub x hx)) (allG_len hf h)
theorem Gd2.add {f a b c : Int} (hf : 0 ≤ f ∧ f ≤ 1) (ha : 1 ≤ a) (hc : 1 ≤ c) {O : List G6} (h : Gd2 f a b c O) {m g : G6} (hm : elG f a b c m = true) (hg : elG f a b c g = true) : Gd2 f a b c (adG a b c g O m) := by
  unfold adG
  split
  · exact h
  case isFalse hn =>
    refine ⟨?_, fun x hx => ?_, by simp [h.un]⟩
    · rw [List.nodup_append]
      refine ⟨h.nd, by simp, fun a ha b hb => ?_⟩
      rw [List.mem_singleton] at hb
      rintro rfl
      exact hn (hb ▸ ha)
    · rcases List.mem_append.1 hx with e | e
      · exact h.sub x e
      · rw [List.mem_singleton.1 e]; exact el_mul hf ha hc hm hg
theorem Gd2.one {f a b c : Int} (hf : 0 ≤ f ∧ f ≤ 1) (ha : 1 ≤ a) (hc : 1 ≤ c) : Gd2 f a b c [unG] := ⟨by simp, fun x hx => by rw [List.mem_singleton.1 hx]; exact el_un hf ha hc, by simp⟩
theorem adG_get {a b c : Int} {g m : G6} {O : List G6} {k : Nat} {x : G6} (h : O[k]? = some x) : (adG a b c g O m)[k]? = some x := by
  unfold adG
  split
  · exact h
  · rw [List.getElem?_append_left (List.getElem?_eq_some_iff.1 h).1, h]
theorem foldl_gd {f a b c : Int} (hf : 0 ≤ f ∧ f ≤ 1) (ha : 1 ≤ a) (hc : 1 ≤ c) {g : G6} (hg : elG f a b c g = true) : ∀ (L O : List G6), (∀ m ∈ L, elG f a b c m = true) → Gd2 f a b c O → Gd2 f a b c (L.foldl (adG a b c g) O)
  | [], _, _, h => h
  | m :: L, O, hL, h => foldl_gd hf ha hc hg L _ (fun x hx => hL x (List.mem_cons_of_mem _ hx)) (h.add hf ha hc (hL m (by simp)) hg)
theorem bfG_gd {f a b c : Int} (hf : 0 ≤ f ∧ f ≤ 1) (ha : 1 ≤ a) (hc : 1 ≤ c) {L : List G6} (hL : ∀ m ∈ L, elG f a b c m = true) : ∀ (n k : Nat) (O : List G6), Gd2 f a b c O → Gd2 f a b c (bfG a b c L n k O)
  | 0, _, _, h => h
  | n + 1, k, O, h => by
    unfold bfG
    split
    · exact h
    · rename_i g hg
      exact bfG_gd hf ha hc hL n (k + 1) _ (foldl_gd hf ha hc (h.sub g (List.mem_of_getElem? hg)) L O hL h)
def closL (a b c : Int) (L : List G6) : List G6 := bfG a b c L 769 0 [unG]
theorem clos_gd {f a b c : Int} (hf : 0 ≤ f ∧ f ≤ 1) (ha : 1 ≤ a) (hc : 1 ≤ c) {L : List G6} (hL : ∀ m ∈ L, elG f a b c m = true) : Gd2 f a b c (closL a b c L) := bfG_gd hf ha hc hL _ _ _ (Gd2.one hf ha hc)
theorem s_clos (f a b c : Int) (L : List G6) (hf : 0 ≤ f ∧ f ≤ 1) (hok : okL a b c = true) (hL : ∀ m ∈ L, elG f a b c m = true) (hL2 : L.length ≤ 1000) : Sp Try.prog 63 [aL a b c, .v (vgs L)] (.sli 0) [.row 6 84 (gs (srtL (closL a b c L)))] := by
  obtain ⟨ha, hc, hb, hac⟩ := okL_spec.1 hok
  refine sp_of (m := no) mixed Try.func63 k63 ?_
  simp -dsimp [q]
  refine call_of (s_sun) rfl (by simp) ?_
  try simp -dsimp
  try (first | exact fp_one (by decide) | refine fp_and (by decide) ?_)
  refine call_of (s_sun) rfl (by simp) ?_
  try simp -dsimp
  try (first | exact fp_one (by decide) | refine fp_and (by decide) ?_)
  have hmem : ∀ g, elG f a b c g = true → oneM g.1 ∧ g.2.1.natAbs ≤ 1000 ∧ g.2.2.natAbs ≤ 1000 := fun g hg => by
    obtain ⟨g1, g2, g3⟩ := elG_spec hf hg
    exact ⟨g1, by omega, by omega⟩
  refine awp_it (false :: true :: true :: false :: false :: true :: true :: true :: []) (fun s : Nat × List G6 => [(7, vi s.1)]) (fun s => [(1, .row 6 84 (gs (srtL s.2))), (2, .row 6 84 (gs s.2))]) (fun s => Gd2 f a b c s.2 ∧ s.1 ≤ s.2.length ∧ bfG a b c L (769 - s.1) s.1 s.2 = closL a b c L) (fun s => 769 - s.1) (0, [unG]) ?_
  intro s0 e
  simp -dsimp at e
  subst e
  refine ⟨?_, ?_⟩
  · exact ⟨by simp [gs, vg, srtL, insG, plc], Gd2.one hf ha.1 hc.1, by simp, rfl⟩
  rintro ⟨k, O⟩ ⟨h1, h2, h3⟩
  simp only at h1 h2 h3
  have hO := h1.len hf hok
  by_cases hk : k < O.length
  case neg =>
    have e : O = closL a b c L := by rw [← h3, bfG_end _ _ _ _ _ _ _ (by omega)]
    have hk2 : ¬ ((k : Int) < (closL a b c L).length) := by rw [← e]; omega
    simp -dsimp [hk2, -Prod.forall, -Prod.exists, e]
  obtain ⟨g, hg⟩ : ∃ g, O[k]? = some g := ⟨_, List.getElem?_eq_getElem hk⟩
  have hgS := h1.sub g (List.mem_of_getElem? hg)
  rw [show 769 - k = (768 - k) + 1 by omega, bfG_step a b c L _ k O g hg] at h3
  simp -dsimp [show ((k : Int) < O.length) by omega, -Prod.forall, -Prod.exists]
  refine awp_it (false :: true :: true :: false :: false :: true :: true :: true :: true :: []) (fun s : Nat × List G6 => [(8, vi s.1)]) (fun s => [(1, .row 6 84 (gs (srtL s.2))), (2, .row 6 84 (gs s.2))]) (fun s => Gd2 f a b c s.2 ∧ s.2[k]? = some g ∧ s.1 ≤ L.length ∧ (L.drop s.1).foldl (adG a b c g) s.2 = L.foldl (adG a b c g) O) (fun s => L.length - s.1) (0, O) ?_
  intro s0 e
  simp -dsimp at e
  subst e
  refine ⟨?_, ?_⟩
  · exact ⟨by simp, h1, hg, by simp, rfl⟩
  rintro ⟨i, O'⟩ ⟨k1, k2, k3, k4⟩
  simp only at k1 k2 k3 k4
  have hO' := k1.len hf hok
  by_cases hi : i < L.length
  case neg =>
    rw [List.drop_of_length_le (by omega), List.foldl_nil] at k4
    simp -dsimp [show ¬ ((i : Int) < L.length) by omega, -Prod.forall, -Prod.exists]
    have hkl := (List.getElem?_eq_some_iff.1 k2).1
    exact ⟨(k + 1, O'), ⟨by rw [w64 (by omega) (by omega)]; simp, rfl, rfl⟩, ⟨k1, by simp only; omega, by simp only; rw [k4, ← h3, show 769 - (k + 1) = 768 - k by omega]⟩, by simp only; omega⟩
  obtain ⟨m, hm⟩ : ∃ m, L[i]? = some m := ⟨_, List.getElem?_eq_getElem hi⟩
  have hmL := hL m (List.mem_of_getElem? hm)
  have ga := k1.add hf ha.1 hc.1 hmL hgS
  have mg := hmem m hmL
  have kg := hmem g hgS
  have kd : (L.drop (i + 1)).foldl (adG a b c g) (adG a b c g O' m) = L.foldl (adG a b c g) O := by
    rw [← k4]
    conv => rhs; rw [List.drop_eq_getElem_cons hi, List.foldl_cons]
    rw [(List.getElem?_eq_some_iff.1 hm).2]
  have hkl := (List.getElem?_eq_some_iff.1 k2).1
  simp -dsimp [show ((i : Int) < L.length) by omega, -Prod.forall, -Prod.exists]
  refine fun m' hm' => ?_
  rw [hm] at hm'
  cases hm'
  refine ⟨hkl, fun g' hg' => ?_⟩
  rw [k2] at hg'
  cases hg'
  refine call_of (s_sgmul m g mg kg) rfl (by simp) ?_
  try simp -dsimp
  try (first | exact fp_one (by decide) | refine fp_and (by decide) ?_)
  have q1 := mul_bd mg.1.1.1 kg.2.1
  have q2 := mul_bd mg.1.1.2 kg.2.2
  have q3 := mul_bd mg.1.2.1 kg.2.1
  have q4 := mul_bd mg.1.2.2 kg.2.2
  obtain ⟨_, mg2, mg3⟩ := mg
  refine call_of (s_sgred a b c (mulG m g) ha hb hc (by simp only [mulG]; omega) (by simp only [mulG]; omega)) rfl (by simp) ?_
  try simp -dsimp
  try (first | exact fp_one (by decide) | refine fp_and (by decide) ?_)
  have ad : adG a b c g O' m = if redG a b c (mulG m g) ∈ O' then O' else O' ++ [redG a b c (mulG m g)] := rfl
  have gk := adG_get (a := a) (b := b) (c := c) (g := g) (m := m) k2
  generalize redG a b c (mulG m g) = p at *
  have hsr := srtL_srt k1.nd
  have hsl := srtL_len O'
  have hsm := srtL_mem (Q := O') (x := p)
  have hsa := srtL_app O' p
  refine call_of (s_shas (srtL O') p hsr (by omega)) rfl (by simp) ?_
  try simp -dsimp
  try (first | exact fp_one (by decide) | refine fp_and (by decide) ?_)
  refine ⟨fun hno => ?_, fun hyes => ⟨i + 1, O', ⟨by rw [w64 (by omega) (by omega)]; simp, rfl, rfl⟩, ?_, by omega⟩⟩
  · rw [if_neg (fun hin => hno (hsm.2 hin))] at ad
    rw [ad] at ga gk kd
    refine call_of (s_sins (srtL O') p hsr (by omega) hno) rfl (by simp) ?_
    try simp -dsimp
    try (first | exact fp_one (by decide) | refine fp_and (by decide) ?_)
    exact ⟨⟨by omega, by omega⟩, i + 1, O' ++ [p], ⟨by rw [w64 (by omega) (by omega)]; simp, hsa.symm, rfl⟩, ⟨ga, gk, by omega, kd⟩, by omega⟩
  · rw [if_pos (hsm.1 hyes)] at ad
    rw [ad] at ga gk kd
    exact ⟨ga, gk, by omega, kd⟩
end Go.Proofs.YtgkhakhkebjbpaaEv
namespace Go.Proofs.YtgkhakhkebjbpaaEv
open Go Go.Proofs
set_option maxRecDepth 10000
set_option maxHeartbeats 2000000
def ltVB (u v : Int × Int) : Bool := lexLt (t2 (u.1, u.2)) (t2 (v.1, v.2))
def plV (l : List (Int × Int)) (v : Int × Int) : Nat := l.findIdx fun x => !ltVB x v
def inV (l : List (Int × Int)) (v : Int × Int) : List (Int × Int) := if l[plV l v]? = some v then l else l.take (plV l v) ++ v :: l.drop (plV l v)
theorem inV_mem {l : List (Int × Int)} {v x : Int × Int} (h : x ∈ inV l v) : x = v ∨ x ∈ l := by
  unfold inV at h
  split at h
  · exact .inr h
  · rcases List.mem_append.1 h with h | h
    · exact .inr (List.mem_of_mem_take h)
    · rcases List.mem_cons.1 h with h | h
      · exact .inl h
      · exact .inr (List.mem_of_mem_drop h)
theorem inV_len (l : List (Int × Int)) (v : Int × Int) : (inV l v).length ≤ l.length + 1 ∧ 0 < (inV l v).length := by
  unfold inV
  split
  · rename_i h
    have := (List.getElem?_eq_some_iff.1 h).1
    omega
  · have := congrArg List.length (List.take_append_drop (plV l v) l)
    simp only [List.length_append, List.length_cons] at *
    omega
theorem plV_stop {l : List (Int × Int)} {v : Int × Int} {i : Nat} (h : ∀ x ∈ l.take i, ltVB x v = true) (hx : i = l.length ∨ ∃ x, l[i]? = some x ∧ ltVB x v = false) : plV l v = i := by
  have hb : ∀ j, j < i → (hj : j < l.length) → (fun x => !ltVB x v) l[j] = false := fun j hj hl => by
    have := h l[j] (List.mem_take_iff_getElem.2 ⟨j, by omega, rfl⟩)
    simp [this]
  rcases hx with rfl | ⟨x, hx, hf⟩
  · unfold plV
    exact List.findIdx_eq_length.2 (fun x hx => by
      have := h x (by rw [List.take_length]; exact hx)
      simp [this])
  · obtain ⟨hl, e⟩ := List.getElem?_eq_some_iff.1 hx
    exact (List.findIdx_eq hl).2 ⟨by rw [e]; simp [hf], fun j hj => hb j hj (by omega)⟩
theorem plV_next {l : List (Int × Int)} {v x : Int × Int} {i : Nat} (h : ∀ y ∈ l.take i, ltVB y v = true) (hx : l[i]? = some x) (hl : ltVB x v = true) : ∀ y ∈ l.take (i + 1), ltVB y v = true := fun y hy => by
  rw [List.take_add_one, hx] at hy
  rcases List.mem_append.1 hy with hy | hy
  · exact h y hy
  · simp only [Option.toList_some, List.mem_singleton] at hy; rw [hy]; exact hl
theorem s_insV1 (l : List (Int × Int)) (v : Int × Int) (hl : l.length ≤ 1000) (h : l[plV l v]? = some v) : SpG Try.prog 87 [.sli 0, aV v.1 v.2] [.row 2 57 (vs l)] (.sli 0) [.row 2 57 (vs l)] := by
  have hp := (List.getElem?_eq_some_iff.1 h).1
  refine sg_of (m := no) mixed Try.func87 k87 ?_
  simp -dsimp [q]
  refine awp_it (true :: false :: false :: true :: false :: true :: []) (fun i : Nat => [(5, vi i)]) (fun i => []) (fun i => i ≤ l.length ∧ ∀ x ∈ l.take i, ltVB x v = true) (fun i => l.length - i) 0 ?_
  intro s0 e
  simp -dsimp at e
  subst e
  refine ⟨?_, ?_⟩
  · simp
  rintro i ⟨hi, hb⟩
  simp -dsimp [-Prod.forall, -Prod.exists]
  refine ⟨fun h1 => ⟨h1, fun x hx => ?_⟩, fun h1 => ?_⟩
  · have w := s_sless x.1 x.2 v.1 v.2
    have hst := plV_stop (i := i) hb
    have hnx := plV_next hb hx
    change Sp Try.prog _ _ (vb (ltVB x v)) [] at w
    cases hlt : ltVB x v with
    | true =>
      rw [hlt] at w
      refine call_of (w) rfl (by simp) ?_
      try simp -dsimp
      try (first | exact fp_one (by decide) | refine fp_and (by decide) ?_)
      exact ⟨i + 1, by rw [w64 (by omega) (by omega)]; simp, ⟨by omega, fun a b hm => hnx hlt (a, b) hm⟩, by omega⟩
    | false =>
      rw [hlt] at w
      obtain rfl := hst (.inr ⟨x, hx, hlt⟩)
      rw [h] at hx
      cases hx
      refine call_of (w) rfl (by simp) ?_
      try simp -dsimp
      try (first | exact fp_one (by decide) | refine fp_and (by decide) ?_)
      exact ⟨fun _ => ⟨hp, fun a b hab => by rw [h] at hab; cases hab; exact ⟨rfl, rfl⟩⟩, hp⟩
  · have := plV_stop (i := i) hb (.inl (by omega))
    omega
theorem s_insV2 (l : List (Int × Int)) (v : Int × Int) (hl : l.length ≤ 1000) (h : ¬ l[plV l v]? = some v) : SpG Try.prog 87 [.sli 0, aV v.1 v.2] [.row 2 57 (vs l)] (.sli 1) [.row 2 57 (vs l), .row 2 57 (vs (inV l v))] := by
  have hp : plV l v ≤ l.length := List.findIdx_le_length
  have hin : inV l v = l.take (plV l v) ++ v :: l.drop (plV l v) := by unfold inV; rw [if_neg h]
  have evs : vs (inV l v) = List.take (plV l v) (vs l) ++ V.ag [.int .i64 v.1, .int .i64 v.2] :: List.take (l.length - plV l v) (List.drop (plV l v) (vs l)) := by
    rw [hin, show List.take (l.length - plV l v) (List.drop (plV l v) (vs l)) = List.drop (plV l v) (vs l) from List.take_of_length_le (by simp)]
    simp [vs, vv, List.map_take, List.map_drop]
  refine sg_of (m := no) mixed Try.func87 k87 ?_
  simp -dsimp [q]
  refine awp_it (true :: false :: false :: true :: false :: true :: []) (fun i : Nat => [(5, vi i)]) (fun i => []) (fun i => i ≤ l.length ∧ ∀ x ∈ l.take i, ltVB x v = true) (fun i => l.length - i) 0 ?_
  intro s0 e
  simp -dsimp at e
  subst e
  refine ⟨?_, ?_⟩
  · simp
  rintro i ⟨hi, hb⟩
  simp -dsimp [-Prod.forall, -Prod.exists]
  refine ⟨fun h1 => ⟨h1, fun x hx => ?_⟩, fun h1 => ?_⟩
  · have w := s_sless x.1 x.2 v.1 v.2
    have hst := plV_stop (i := i) hb
    have hnx := plV_next hb hx
    change Sp Try.prog _ _ (vb (ltVB x v)) [] at w
    cases hlt : ltVB x v with
    | true =>
      rw [hlt] at w
      refine call_of (w) rfl (by simp) ?_
      try simp -dsimp
      try (first | exact fp_one (by decide) | refine fp_and (by decide) ?_)
      exact ⟨i + 1, by rw [w64 (by omega) (by omega)]; simp, ⟨by omega, fun a b hm => hnx hlt (a, b) hm⟩, by omega⟩
    | false =>
      rw [hlt] at w
      obtain rfl := hst (.inr ⟨x, hx, hlt⟩)
      refine call_of (w) rfl (by simp) ?_
      try simp -dsimp
      try (first | exact fp_one (by decide) | refine fp_and (by decide) ?_)
      exact ⟨fun _ => ⟨h1, fun a b hab => ⟨fun e1 e2 => h (by rw [hab, e1, e2]), fun _ => ⟨hp, ⟨by omega, by omega⟩, ⟨by omega, by omega⟩, hp, by omega, ⟨by omega, by omega⟩, by decide, evs⟩⟩⟩, fun _ => ⟨hp, ⟨by omega, by omega⟩, ⟨by omega, by omega⟩, hp, by omega, ⟨by omega, by omega⟩, by decide, evs⟩⟩
  · obtain rfl := plV_stop (i := i) hb (.inl (by omega))
    exact ⟨fun _ => ⟨by omega, fun y hab => ⟨fun e1 e2 => h (by rw [hab]; exact congrArg some (Prod.ext e1 e2)), fun _ => ⟨hp, ⟨by omega, by omega⟩, ⟨by omega, by omega⟩, hp, by omega, ⟨by omega, by omega⟩, by decide, evs⟩⟩⟩, fun _ => ⟨hp, ⟨by omega, by omega⟩, ⟨by omega, by omega⟩, hp, by omega, ⟨by omega, by omega⟩, by decide, evs⟩⟩
def orV (a b c : Int) (v : Int × Int) (G : List G6) : List (Int × Int) := G.foldl (fun o g => inV o (mvV a b c g v)) []
theorem orV_succ {a b c : Int} {v : Int × Int} {G : List G6} {i : Nat} {g : G6} (h : G[i]? = some g) : orV a b c v (G.take (i + 1)) = inV (orV a b c v (G.take i)) (mvV a b c g v) := by
  unfold orV
  rw [List.take_add_one, h, List.foldl_append]
  rfl
theorem mvV_in {a b c : Int} (ha : 1 ≤ a) (hc : 1 ≤ c) (g : G6) (v : Int × Int) : inC a c (mvV a b c g v) := by
  unfold mvV inC
  exact red_in ha hc _ _
theorem foldl_or {a b c : Int} (ha : 1 ≤ a) (hc : 1 ≤ c) (v : Int × Int) : ∀ (G : List G6) (o : List (Int × Int)), (∀ x ∈ o, inC a c x) → (∀ x ∈ G.foldl (fun o g => inV o (mvV a b c g v)) o, inC a c x) ∧ (G.foldl (fun o g => inV o (mvV a b c g v)) o).length ≤ o.length + G.length ∧ (0 < o.length ∨ 0 < G.length → 0 < (G.foldl (fun o g => inV o (mvV a b c g v)) o).length)
  | [], o, h => ⟨h, by simp, by simp⟩
  | g :: G, o, h => by
    obtain ⟨h1, h2⟩ := inV_len o (mvV a b c g v)
    obtain ⟨k1, k2, k3⟩ := foldl_or ha hc v G (inV o (mvV a b c g v)) (fun x hx => by
      rcases inV_mem hx with rfl | hx
      · exact mvV_in ha hc g v
      · exact h x hx)
    rw [List.foldl_cons]
    exact ⟨k1, by simp only [List.length_cons]; omega, fun _ => k3 (.inl h2)⟩
theorem orV_in {a b c : Int} (ha : 1 ≤ a) (hc : 1 ≤ c) (v : Int × Int) (G : List G6) : (∀ x ∈ orV a b c v G, inC a c x) ∧ (orV a b c v G).length ≤ G.length ∧ (0 < G.length → 0 < (orV a b c v G).length) := by
  obtain ⟨h1, h2, h3⟩ := foldl_or (b := b) ha hc v G [] (by simp)
  exact ⟨h1, Nat.le_trans h2 (by simp), fun h => h3 (.inr h)⟩
theorem s_orbit (a b c : Int) (G : List G6) (v : Int × Int) (h : okL a b c = true) (hv : inC a c v) (hG : G.length ≤ 800) (hs : ∀ g ∈ G, smallG g) : Sp Try.prog 82 [aL a b c, .v (vgs G), aV v.1 v.2] (.v (.sl 2 (vs (orV a b c v G)))) [] := by
  obtain ⟨ha, hc, hb, hac⟩ := okL_spec.1 h
  refine sp_of (m := fun f => f == 87) mixed Try.func82 k82 ?_
  simp -dsimp [q]
  refine awp_it (false :: true :: false :: true :: false :: true :: false :: true :: true :: []) (fun i : Nat => [(8, vi i)]) (fun i => [(2, .row 2 57 (vs (orV a b c v (G.take i))))]) (fun i => i ≤ G.length) (fun i => G.length - i) 0 ?_
  intro s0 e
  simp -dsimp at e
  subst e
  refine ⟨?_, ?_⟩
  · simp [orV]
  intro i hi
  simp -dsimp [-Prod.forall, -Prod.exists]
  refine ⟨fun h1 => ⟨h1, fun g hg => ?_⟩, fun h1 => ?_⟩
  · have hos := orV_succ (a := a) (b := b) (c := c) (v := v) hg
    have hol := (orV_in (b := b) ha.1 hc.1 v (G.take i)).2.1
    have hol2 : (orV a b c v (G.take i)).length ≤ 800 := by rw [List.length_take] at hol; omega
    have wm := s_smove a b c g v.1 v.2 (hs g (List.mem_of_getElem? hg)) ha hb hc (by obtain ⟨h3, h4⟩ := hv; omega)
    generalize orV a b c v (G.take i) = o at *
    have e9 : mvV a b c g (v.1, v.2) = mvV a b c g v := rfl
    rw [e9] at wm
    generalize mvV a b c g v = u at *
    refine call_of (wm) rfl (by simp) ?_
    try simp -dsimp
    try (first | exact fp_one (by decide) | refine fp_and (by decide) ?_)
    by_cases hpr : o[plV o u]? = some u
    · have wi := s_insV1 o u (by omega) hpr
      have e2 : inV o u = o := by unfold inV; rw [if_pos hpr]
      refine callM_of rfl (wi) (by simp) ?_
      try simp -dsimp
      try (first | exact fp_one (by decide) | refine fp_and (by decide) ?_)
      exact ⟨i + 1, ⟨by rw [w64 (by omega) (by omega)]; simp, by rw [hos, e2]⟩, by omega, by omega⟩
    · have wi := s_insV2 o u (by omega) hpr
      refine callM_of rfl (wi) (by simp) ?_
      try simp -dsimp
      try (first | exact fp_one (by decide) | refine fp_and (by decide) ?_)
      exact ⟨i + 1, ⟨by rw [w64 (by omega) (by omega)]; simp, by rw [hos]⟩, by omega, by omega⟩
  · rw [List.take_of_length_le h1]
def vsS (L : List (List (Int × Int))) : List V := L.map fun o => V.sl 2 (vs o)
@[simp] theorem vsS_nil : vsS [] = [] := rfl
@[simp] theorem vsS_len (l : List (List (Int × Int))) : (vsS l).length = l.length := by simp [vsS]
@[simp] theorem vsS_app (l : List (List (Int × Int))) (o : List (Int × Int)) : vsS l ++ [.sl 2 (vs o)] = vsS (l ++ [o]) := by simp [vsS]
@[simp] theorem vsS_get (l : List (List (Int × Int))) (n : Nat) (K : V → Prop) : fA ((vsS l)[n]?) K = ∀ o, l[n]? = some o → K (.sl 2 (vs o)) := by unfold vsS; exact fA_map
def osV (a b c : Int) (G : List G6) (n : Nat) : List (List (Int × Int)) := ((cl a c).take n).filterMap fun v => if (orV a b c v G)[0]? = some v then some (orV a b c v G) else none
theorem osV_succ {a b c : Int} {G : List G6} {i : Nat} {v : Int × Int} (h : (cl a c)[i]? = some v) : osV a b c G (i + 1) = osV a b c G i ++ (if (orV a b c v G)[0]? = some v then [orV a b c v G] else []) := by
  unfold osV
  rw [List.take_add_one, h, List.filterMap_append]
  congr 1
  simp only [Option.toList_some, List.filterMap_cons, List.filterMap_nil]
  by_cases hh : (orV a b c v G)[0]? = some v
  · rw [if_pos hh, if_pos hh]
  · rw [if_neg hh, if_neg hh]
theorem osV_len (a b c : Int) (G : List G6) (n : Nat) : (osV a b c G n).length ≤ n := by
  refine Nat.le_trans (List.length_filterMap_le _ _) ?_
  rw [List.length_take]
  omega
theorem osV_mem {a b c : Int} {G : List G6} {n : Nat} {o : List (Int × Int)} (h : o ∈ osV a b c G n) : ∃ v, o = orV a b c v G := by
  obtain ⟨v, _, hv⟩ := List.mem_filterMap.1 h
  split at hv
  · cases hv; exact ⟨v, rfl⟩
  · cases hv
theorem s_orbits (a b c : Int) (G : List G6) (h : okL a b c = true) (hG : 0 < G.length ∧ G.length ≤ 800) (hs : ∀ g ∈ G, smallG g) : Sp Try.prog 75 [aL a b c, .v (vgs G)] (.v (.sl 0 (vsS (osV a b c G (cl a c).length)))) [] := by
  obtain ⟨ha, hc, hb, hac⟩ := okL_spec.1 h
  have wc := s_scells a b c ha hc
  have hcl : (cl a c).length ≤ 64 := by
    rw [cellsL_len]
    have e : ((a.toNat * c.toNat : Nat) : Int) = a * c := by
      rw [Int.natCast_mul, Int.toNat_of_nonneg (by omega), Int.toNat_of_nonneg (by omega)]
    omega
  refine sp_of (m := no) mixed Try.func75 k75 ?_
  simp -dsimp [q]
  refine call_of (wc) rfl (by simp) ?_
  try simp -dsimp
  try (first | exact fp_one (by decide) | refine fp_and (by decide) ?_)
  refine awp_it (false :: true :: true :: false :: false :: true :: true :: true :: []) (fun i : Nat => [(7, vi i)]) (fun i => [(2, .row 0 58 (vsS (osV a b c G i)))]) (fun i => i ≤ (cl a c).length) (fun i => (cl a c).length - i) 0 ?_
  intro s0 e
  simp -dsimp at e
  subst e
  refine ⟨?_, ?_⟩
  · simp [osV]
  intro i hi
  simp -dsimp [-Prod.forall, -Prod.exists]
  refine ⟨fun h1 => ⟨h1, fun v hv => ?_⟩, fun h1 => ?_⟩
  · have hin : inC a c v := (cl_at ha.1 hc.1 hv).1
    have wo := s_orbit a b c G v h hin hG.2 hs
    obtain ⟨_, ho2, ho3⟩ := orV_in (b := b) ha.1 hc.1 v G
    have hos := osV_succ (b := b) (G := G) hv
    have hol := osV_len a b c G i
    have ho3 := ho3 hG.1
    generalize orV a b c v G = o at *
    obtain ⟨u, hu⟩ : ∃ u, o[0]? = some u := ⟨_, List.getElem?_eq_getElem ho3⟩
    refine call_of (wo) rfl (by simp) ?_
    try simp -dsimp
    try (first | exact fp_one (by decide) | refine fp_and (by decide) ?_)
    refine ⟨by omega, fun u1 u2 hu' => ⟨h1, fun v1 v2 hv' => ?_⟩⟩
    obtain rfl : v = (v1, v2) := Option.some.inj (hv.symm.trans hv')
    obtain rfl : u = (u1, u2) := Option.some.inj (hu.symm.trans hu')
    have h1' : i < (cl a c).length := h1
    refine ⟨fun e1 e2 => ⟨⟨by omega, by omega⟩, i + 1, ⟨by rw [w64 (by omega) (by omega)]; simp, ?_⟩, by omega, by omega⟩, fun hne => ⟨i + 1, ⟨by rw [w64 (by omega) (by omega)]; simp, ?_⟩, by omega, by omega⟩⟩
    · rw [hos, if_pos (by rw [hu, e1, e2])]
    · rw [hos, if_neg (fun e => by
        rw [hu] at e
        cases e
        exact hne rfl rfl), List.append_nil]
  · have h1' : (cl a c).length ≤ i := h1
    have : i = (cl a c).length := by omega
    subst this
    rfl
def seO (a b c : Int) (k : Int) (N : List Int) (o : List (Int × Int)) : List Int := o.foldl (fun N v => N.set (num a b c v.1 v.2).toNat k) N
theorem seO_succ {a b c k : Int} {N : List Int} {o : List (Int × Int)} {j : Nat} {v : Int × Int} (h : o[j]? = some v) : seO a b c k N (o.take (j + 1)) = (seO a b c k N (o.take j)).set (num a b c v.1 v.2).toNat k := by
  unfold seO
  rw [List.take_add_one, h, List.foldl_append]
  rfl
theorem seO_prop {a b c k : Int} {B : Int} (hk : 0 ≤ k ∧ k < B) : ∀ (o : List (Int × Int)) (N : List Int), (∀ x ∈ N, 0 ≤ x ∧ x < B) → (seO a b c k N o).length = N.length ∧ ∀ x ∈ seO a b c k N o, 0 ≤ x ∧ x < B
  | [], N, h => ⟨rfl, h⟩
  | v :: o, N, h => by
    have := seO_prop (a := a) (b := b) (c := c) hk o (N.set (num a b c v.1 v.2).toNat k) (fun x hx => by
      rcases List.mem_or_eq_of_mem_set hx with hx | rfl
      · exact h x hx
      · exact hk)
    exact ⟨this.1.trans (by simp), this.2⟩
def nuV (a b c : Int) (Os : List (List (Int × Int))) : Nat → List Int
  | 0 => List.replicate (a * c).toNat 0
  | k + 1 => match Os[k]? with
    | some o => seO a b c k (nuV a b c Os k) o
    | none => nuV a b c Os k
theorem nuV_succ {a b c : Int} {Os : List (List (Int × Int))} {k : Nat} {o : List (Int × Int)} (h : Os[k]? = some o) : nuV a b c Os (k + 1) = seO a b c k (nuV a b c Os k) o := by rw [nuV, h]
theorem nuV_prop (a b c : Int) (Os : List (List (Int × Int))) (B : Int) (hB : 0 < B) : ∀ k : Nat, (k : Int) ≤ B → (nuV a b c Os k).length = (a * c).toNat ∧ ∀ x ∈ nuV a b c Os k, 0 ≤ x ∧ x < B
  | 0, _ => ⟨by simp [nuV], fun x hx => by
    rw [nuV] at hx
    rw [(List.mem_replicate.1 hx).2]
    omega⟩
  | k + 1, hk => by
    obtain ⟨h1, h2⟩ := nuV_prop a b c Os B hB k (by omega)
    unfold nuV
    split
    · rename_i o _
      have := seO_prop (a := a) (b := b) (c := c) (k := (k : Int)) (B := B) ⟨by omega, by omega⟩ o _ h2
      exact ⟨this.1.trans h1, this.2⟩
    · exact ⟨h1, h2⟩
theorem s_numbers (a b c : Int) (G : List G6) (h : okL a b c = true) (hG : 0 < G.length ∧ G.length ≤ 800) (hs : ∀ g ∈ G, smallG g) : Sp Try.prog 64 [aL a b c, .v (vgs G)] (.sli 0) [.row 0 2 (is (nuV a b c (osV a b c G (cl a c).length) (osV a b c G (cl a c).length).length))] := by
  obtain ⟨ha, hc, hb, hac⟩ := okL_spec.1 h
  have wo := s_orbits a b c G h hG hs
  have hpos := ac_pos ha.1 hc.1
  have hOs : ∀ o ∈ osV a b c G (cl a c).length, (∀ x ∈ o, inC a c x) ∧ o.length ≤ 800 := fun o ho => by
    obtain ⟨v, rfl⟩ := osV_mem ho
    obtain ⟨h1, h2, _⟩ := orV_in (b := b) ha.1 hc.1 v G
    exact ⟨h1, by omega⟩
  have hcl : (cl a c).length ≤ 64 := by
    rw [cellsL_len]
    have e : ((a.toNat * c.toNat : Nat) : Int) = a * c := by
      rw [Int.natCast_mul, Int.toNat_of_nonneg (by omega), Int.toNat_of_nonneg (by omega)]
    omega
  have hlen := osV_len a b c G (cl a c).length
  have hN := fun k hk => (nuV_prop a b c (osV a b c G (cl a c).length) 1000 (by decide) k hk).1
  generalize osV a b c G (cl a c).length = Os at *
  have e1 : IntKind.i64.wrap (a * c) = a * c := w64 (by omega) (by omega)
  refine sp_of (m := no) mixed Try.func64 k64 ?_
  simp -dsimp [q, e1]
  refine ⟨⟨by omega, by omega, by omega⟩, ?_⟩
  refine call_of (wo) rfl (by simp) ?_
  try simp -dsimp
  try (first | exact fp_one (by decide) | refine fp_and (by decide) ?_)
  refine awp_it (false :: false :: true :: false :: false :: true :: true :: true :: []) (fun k : Nat => [(7, vi k)]) (fun k => [(1, .row 0 2 (is (nuV a b c Os k)))]) (fun k => k ≤ Os.length) (fun k => Os.length - k) 0 ?_
  intro s0 e
  simp -dsimp at e
  subst e
  refine ⟨?_, ?_⟩
  · simp [nuV]
  intro k hk
  simp -dsimp
  refine ⟨fun h1 => ?_, fun h1 => ?_⟩
  · obtain ⟨o, ho⟩ : ∃ o, Os[k]? = some o := ⟨_, List.getElem?_eq_getElem h1⟩
    obtain ⟨hoc, hol⟩ := hOs o (List.mem_of_getElem? ho)
    have hnu := nuV_succ (a := a) (b := b) (c := c) ho
    have hnl := hN k (by omega)
    refine awp_it (false :: false :: true :: false :: false :: true :: true :: true :: true :: []) (fun j : Nat => [(8, vi j)]) (fun j => [(1, .row 0 2 (is (seO a b c k (nuV a b c Os k) (o.take j))))]) (fun j => j ≤ o.length) (fun j => o.length - j) 0 ?_
    intro s0 e
    simp -dsimp at e
    subst e
    refine ⟨?_, ?_⟩
    · simp [seO]
    intro j hj
    simp -dsimp [ho]
    refine ⟨h1, fun h2 => ⟨h1, h2, fun x y hxy => ?_⟩, fun h2 => ?_⟩
    · obtain ⟨hx, hy⟩ := hoc _ (List.mem_of_getElem? hxy)
      simp only at hx hy
      have wn := s_snumber a b c x y ha hb hc (by omega) (by omega)
      have hr := num_range (a := a) (b := b) (c := c) (x := x) (y := y) (by omega) (by omega)
      have hse := seO_succ (a := a) (b := b) (c := c) (k := (k : Int)) (N := nuV a b c Os k) hxy
      have hsl := (seO_prop (a := a) (b := b) (c := c) (k := (k : Int)) (B := 100000) ⟨by omega, by omega⟩ (o.take j) (nuV a b c Os k) (nuV_prop a b c Os 100000 (by decide) k (by omega)).2).1
      rw [hnl] at hsl
      generalize num a b c x y = u at *
      generalize seO a b c k (nuV a b c Os k) (o.take j) = M at *
      refine call_of (wn) rfl (by simp) ?_
      try simp -dsimp
      try (first | exact fp_one (by decide) | refine fp_and (by decide) ?_)
      exact ⟨⟨hr.1, by omega⟩, by omega, by decide, j + 1, ⟨by rw [w64 (by omega) (by omega)]; simp, by rw [hse]⟩, by omega, by omega⟩
    · refine ⟨k + 1, ⟨by rw [w64 (by omega) (by omega)]; simp, ?_⟩, by omega, by omega⟩
      rw [hnu, List.take_of_length_le h2]
  · rw [show Os.length = k by omega]
end Go.Proofs.YtgkhakhkebjbpaaEv
namespace Go.Proofs.YtgkhakhkebjbpaaEv
open Go Go.Proofs
set_option maxRecDepth 10000
set_option maxHeartbeats 2000000
def u8s (l : List Int) : List V := l.map fun y => .int .u8 y
@[simp] theorem u8s_len (l : List Int) : (u8s l).length = l.length := by simp [u8s]
@[simp] theorem u8s_get (l : List Int) (n : Nat) (K : V → Prop) : fA ((u8s l)[n]?) K = ∀ a, l[n]? = some a → K (.int .u8 a) := by unfold u8s; exact fA_map
abbrev cdV (l : List Int) : V := .sl 0 (u8s l)
def okC (l : List Int) : Prop := l.length ≤ 4096 ∧ ∀ y ∈ l, 0 ≤ y ∧ y < 256
abbrev Sr := Nat × Int
abbrev srC (code : List Int) (s : Sr) : Ck := .box [.v (cdV code), vi s.1, vi s.2]
def okSr (s : Sr) : Prop := s.1 ≤ 4096 ∧ 0 ≤ s.2 ∧ s.2 < 2147483647
theorem tmod_in {x m : Int} (h : 0 ≤ x) (hm : 0 < m) : 0 ≤ x.tmod m ∧ x.tmod m < m := ⟨Int.tmod_nonneg m h, Int.tmod_lt_of_pos x hm⟩
theorem s_from (code : List Int) (hc : okC code) : ∃ s, okSr s ∧ SpG Try.prog 18 [.v (cdV code)] [] (.ptr 0 0) [srC code s] := by
  obtain ⟨h1, h2⟩ := hc
  let f : Nat → Int := fun n => Nat.rec 93001 (fun i s => (s * 73 + (code[i]?).getD 0).tmod 2147483647) n
  have f0 : f 0 = 93001 := rfl
  have fs : ∀ i y, code[i]? = some y → f (i + 1) = (f i * 73 + y).tmod 2147483647 := fun i y hy => by
    show (f i * 73 + (code[i]?).getD 0).tmod 2147483647 = _
    rw [hy]
    rfl
  have fr : ∀ i, i ≤ code.length → 0 ≤ f i ∧ f i < 2147483647 := by
    intro i
    induction i with
    | zero => intro _; rw [f0]; decide
    | succ i ih =>
      intro hi
      have hy : code[i]? = some (code[i]'(by omega)) := List.getElem?_eq_getElem (by omega)
      rw [fs i _ hy]
      have := ih (by omega)
      have := h2 _ (List.mem_of_getElem? hy)
      exact tmod_in (by omega) (by decide)
  clear_value f
  refine ⟨(0, f (min code.length 64)), ⟨by simp, fr _ (by omega)⟩, ?_⟩
  refine sg_of (m := no) mixed Try.func18 k18 ?_
  simp -dsimp [q]
  refine awp_it (true :: false :: false :: true :: true :: []) (fun i : Nat => [(4, vi i)]) (fun i => [(0, .box [.v (cdV code), vi 0, vi (f i)])]) (fun i => i ≤ code.length ∧ i ≤ 64) (fun i => code.length - i) 0 ?_
  intro s0 e
  simp -dsimp at e
  subst e
  refine ⟨?_, ?_⟩
  · simp [f0]
  rintro i ⟨hi, hi2⟩
  have hfr := fr i hi
  simp -dsimp
  refine ⟨fun h3 => ⟨fun h4 => ⟨h3, fun a ha => ?_⟩, fun h4 => ?_⟩, fun h3 => ?_⟩
  · have hya := h2 a (List.mem_of_getElem? ha)
    refine ⟨by decide, i + 1, ⟨by rw [w64 (by omega) (by omega)]; simp, ?_⟩, ⟨by omega, by omega⟩, by omega⟩
    rw [w64 (n := f i * 73) (by omega) (by omega), w64 (n := a) (by omega) (by omega), w64 (by omega) (by omega), fs i a ha]
  · rw [show min code.length 64 = i by omega]
  · rw [show min code.length 64 = i by omega]
theorem s_next (code : List Int) (hc : okC code) (s : Sr) (hs : okSr s) (n : Int) (hn : n ≤ 9223372036854775807) : ∃ v s', okSr s' ∧ (n ≤ 1 → v = 0) ∧ (1 < n → 0 ≤ v ∧ v < n) ∧ SpG Try.prog 27 [.ptr 0 0, vi n] [srC code s] (vi v) [srC code s'] := by
  obtain ⟨h1, h2⟩ := hc
  obtain ⟨s1, s2, s3⟩ := hs
  by_cases hn1 : n ≤ 1
  · refine ⟨0, s, ⟨s1, s2, s3⟩, fun _ => rfl, fun h => by omega, ?_⟩
    refine sg_of (m := no) mixed Try.func27 k27 ?_
    simp -dsimp [q, hn1]
  have e1 : IntKind.i64.wrap (IntKind.i64.wrap (s.2 * 48271) + 67) = s.2 * 48271 + 67 := by rw [w64 (n := s.2 * 48271) (by omega) (by omega), w64 (by omega) (by omega)]
  have hm := tmod_in (x := s.2 * 48271 + 67) (m := 2147483647) (by omega) (by decide)
  generalize hg : (s.2 * 48271 + 67).tmod 2147483647 = g at *
  have hd : 0 ≤ g.tdiv 37 ∧ g.tdiv 37 < 2147483647 := by
    rw [Int.tdiv_eq_ediv_of_nonneg hm.1]
    omega
  have e2 : IntKind.i64.wrap (g.tdiv 37) = g.tdiv 37 := w64 (by omega) (by omega)
  generalize hx : g.tdiv 37 = x at *
  by_cases ha : s.1 < code.length
  case neg =>
    refine ⟨x.tmod n, (s.1, g), ⟨s1, hm⟩, fun h => absurd h hn1, fun h => tmod_in hd.1 (by omega), ?_⟩
    refine sg_of (m := no) mixed Try.func27 k27 ?_
    have n0 : ¬ n = 0 := by omega
    have a2 : code.length ≤ s.1 := by omega
    simp -dsimp [q, hn1, e1, hg, hx, e2, ha, n0, a2]
  obtain ⟨y, hy⟩ : ∃ y, code[s.1]? = some y := ⟨_, List.getElem?_eq_getElem ha⟩
  have hyb := h2 y (List.mem_of_getElem? hy)
  refine ⟨(if n ≤ 256 ∧ ((s.1 : Int) + 1).tmod 2 = 0 then y else x + y).tmod n, (s.1 + 1, g), ⟨by simp only; omega, hm⟩, fun h => absurd h hn1, fun h => tmod_in (by split <;> omega) (by omega), ?_⟩
  refine sg_of (m := no) mixed Try.func27 k27 ?_
  have n0 : ¬ n = 0 := by omega
  have a2 : ¬ code.length ≤ s.1 := by omega
  have e3 : IntKind.i64.wrap ((s.1 : Int) + 1) = (s.1 : Int) + 1 := w64 (by omega) (by omega)
  have e4 : IntKind.i64.wrap (IntKind.i64.wrap x + IntKind.i64.wrap y) = x + y := by rw [w64 (n := x) (by omega) (by omega), w64 (n := y) (by omega) (by omega), w64 (by omega) (by omega)]
  have e5 : IntKind.i64.wrap ((s.1 : Int) + 1 - 1) = s.1 := by rw [w64 (by omega) (by omega)]; omega
  have e6 : IntKind.i64.wrap y = y := w64 (by omega) (by omega)
  have hg3 : (u8s code)[s.1]? = some (.int .u8 y) := by simp [u8s, hy]
  have hg2 : (u8s code)[((s.1 : Nat) : Int).toNat]? = some (.int .u8 y) := by rw [Int.toNat_natCast]; exact hg3
  simp -dsimp [q, hn1, e1, hg, hx, e2, ha, n0, a2, ↓hg2, ↓hg3, e3, e4, e5, e6]
  have e7 : IntKind.i64.wrap (x + y) = x + y := w64 (by omega) (by omega)
  rw [e7]
  refine ⟨fun h3 => ⟨fun h4 => ?_, fun h4 => ?_⟩, fun h3 => ?_⟩
  · have e8 : IntKind.i64.wrap (s.1 : Int) = s.1 := w64 (by omega) (by omega)
    rw [e8, if_pos ⟨h3, h4⟩]
    refine ⟨⟨by omega, by omega⟩, fun a ha' => ?_⟩
    rw [Int.toNat_natCast, hy] at ha'
    cases ha'
    rw [e6]
  · rw [if_neg (fun e => h4 e.2)]
  · rw [if_neg (fun e => by omega)]
open Classical in
noncomputable def nx (code : List Int) (s : Sr) (n : Int) : Int × Sr :=
  if h : okC code ∧ okSr s ∧ n ≤ 9223372036854775807 then ((s_next code h.1 s h.2.1 n h.2.2).choose, (s_next code h.1 s h.2.1 n h.2.2).choose_spec.choose) else (0, s)
theorem nx_spec {code : List Int} (hc : okC code) {s : Sr} (hs : okSr s) {n : Int} (hn : n ≤ 9223372036854775807) : okSr (nx code s n).2 ∧ (n ≤ 1 → (nx code s n).1 = 0) ∧ (1 < n → 0 ≤ (nx code s n).1 ∧ (nx code s n).1 < n) ∧ SpG Try.prog 27 [.ptr 0 0, vi n] [srC code s] (vi (nx code s n).1) [srC code (nx code s n).2] := by
  unfold nx
  rw [dif_pos ⟨hc, hs, hn⟩]
  exact (s_next code hc s hs n hn).choose_spec.choose_spec
theorem nx_ok {code : List Int} (hc : okC code) {s : Sr} (hs : okSr s) {n : Int} (hn : n ≤ 9223372036854775807) : okSr (nx code s n).2 := (nx_spec hc hs hn).1
theorem nx_lt {code : List Int} (hc : okC code) {s : Sr} (hs : okSr s) {n : Int} (hn : 1 ≤ n ∧ n ≤ 9223372036854775807) : 0 ≤ (nx code s n).1 ∧ (nx code s n).1 < n := by
  obtain ⟨_, h1, h2, _⟩ := nx_spec hc hs hn.2
  by_cases h : n ≤ 1
  · rw [h1 h]; omega
  · exact h2 (by omega)
theorem nx_nn {code : List Int} (hc : okC code) {s : Sr} (hs : okSr s) {n : Int} (hn : n ≤ 9223372036854775807) : 0 ≤ (nx code s n).1 := by
  obtain ⟨_, h1, h2, _⟩ := nx_spec hc hs hn
  by_cases h : n ≤ 1
  · rw [h1 h]; omega
  · exact (h2 (by omega)).1
theorem s_nx {code : List Int} (hc : okC code) {s : Sr} (hs : okSr s) {n : Int} (hn : n ≤ 9223372036854775807) : SpG Try.prog 27 [.ptr 0 0, vi n] [srC code s] (vi (nx code s n).1) [srC code (nx code s n).2] := (nx_spec hc hs hn).2.2.2
theorem s_pick (code : List Int) (hc : okC code) (s : Sr) (hs : okSr s) (l : List Int) (hl : 1 ≤ l.length ∧ l.length ≤ 1000) (t : Nat) : ∃ v s', okSr s' ∧ v ∈ l ∧ SpG Try.prog 44 [.ptr 0 0, .sli 1] [srC code s, .row 0 t (is l)] (vi v) [srC code s', .row 0 t (is l)] := by
  obtain ⟨i, s', hs', h0, h1, w⟩ := s_next code hc s hs l.length (by omega)
  have hi : 0 ≤ i ∧ i < l.length := by
    by_cases h : (l.length : Int) ≤ 1
    · rw [h0 h]; omega
    · exact h1 (by omega)
  obtain ⟨v, hv⟩ : ∃ v, l[i.toNat]? = some v := ⟨_, List.getElem?_eq_getElem (by omega)⟩
  refine ⟨v, s', hs', List.mem_of_getElem? hv, ?_⟩
  refine sg_of (m := fun f => f == 27) mixed Try.func44 k44 ?_
  simp -dsimp [q]
  refine callM_of rfl (w) (by simp) ?_
  try simp -dsimp
  try (first | exact fp_one (by decide) | refine fp_and (by decide) ?_)
  refine ⟨hi, by omega, fun a ha => ⟨rfl, by decide, ?_⟩⟩
  rw [hv] at ha
  cases ha
  rfl
end Go.Proofs.YtgkhakhkebjbpaaEv
namespace Go.Proofs.YtgkhakhkebjbpaaEv
open Go Go.Proofs
set_option maxRecDepth 10000
set_option maxHeartbeats 2000000
noncomputable def dmG (code : List Int) (f a b c : Int) (s : Sr) : G6 × Sr :=
  let i := nx code s (mtL f a b c).length
  let x := nx code i.2 9
  let y := nx code x.2 9
  ((((mtL f a b c)[i.1.toNat]?).getD (1, 0, 0, 1), x.1 - 4, y.1 - 4), y.2)
theorem mt_pos {f a b c : Int} (hf : 0 ≤ f ∧ f ≤ 1) (hc : 1 ≤ c) : 0 < (mtL f a b c).length := by
  have h1 : pmOk f (1, 0, 0, 1) = true := by
    have : f = 0 ∨ f = 1 := by omega
    rcases this with rfl | rfl <;> decide
  have h2 : keepL a b c (1, 0, 0, 1) = true := by
    rw [keep_spn hc]
    exact ⟨⟨1, 0, by simp, by simp⟩, ⟨0, 1, by simp, by simp⟩⟩
  exact List.length_pos_of_mem (a := (1, 0, 0, 1)) (List.mem_filter.2 ⟨(pmL_mem hf _ _ _ _).2 h1, h2⟩)
theorem s_drawM (code : List Int) (hc : okC code) (s : Sr) (hs : okSr s) (f a b c : Int) (hf : 0 ≤ f ∧ f ≤ 1) (hok : okL a b c = true) : okSr (dmG code f a b c s).2 ∧ ((dmG code f a b c s).1.1 ∈ mtL f a b c ∧ (dmG code f a b c s).1.2.1.natAbs ≤ 4 ∧ (dmG code f a b c s).1.2.2.natAbs ≤ 4) ∧
    SpG Try.prog 62 [.ptr 0 0, vi f, aL a b c] [srC code s] (aG6 (dmG code f a b c s).1) [srC code (dmG code f a b c s).2] := by
  obtain ⟨ha, hcc, hb, hac⟩ := okL_spec.1 hok
  have wcode := s_scode f a b c
  rw [if_pos ⟨hf.1, hf.2, hok⟩] at wcode
  have wst := s_stable f a b c hf hok
  have hM : (mtL f a b c).length ≤ 12 := Nat.le_trans (List.length_filter_le _ _) (pm_count f hf)
  have hpos := mt_pos (a := a) (b := b) hf hcc.1
  unfold dmG
  simp only
  generalize mtL f a b c = L at *
  have w1 := s_nx hc hs (n := (L.length : Int)) (by omega)
  have o1 := nx_ok hc hs (n := (L.length : Int)) (by omega)
  have l1 := nx_lt hc hs (n := (L.length : Int)) (by omega)
  generalize nx code s (L.length : Int) = x1 at *
  obtain ⟨i, s1⟩ := x1
  simp only at w1 o1 l1 ⊢
  have w2 := s_nx hc o1 (n := 9) (by decide)
  have o2 := nx_ok hc o1 (n := 9) (by decide)
  have l2 := nx_lt hc o1 (n := 9) (by decide)
  generalize nx code s1 9 = x2 at *
  obtain ⟨x, s2⟩ := x2
  simp only at w2 o2 l2 ⊢
  have w3 := s_nx hc o2 (n := 9) (by decide)
  have o3 := nx_ok hc o2 (n := 9) (by decide)
  have l3 := nx_lt hc o2 (n := 9) (by decide)
  generalize nx code s2 9 = x3 at *
  obtain ⟨y, s3⟩ := x3
  simp only at w3 o3 l3 ⊢
  obtain ⟨m, hm⟩ : ∃ m, L[i.toNat]? = some m := ⟨_, List.getElem?_eq_getElem (by omega)⟩
  rw [hm]
  refine ⟨o3, ⟨List.mem_of_getElem? hm, by omega, by omega⟩, ?_⟩
  simp only [Option.getD_some]
  refine sg_of (m := fun f => f == 27) mixed Try.func62 k62 ?_
  simp -dsimp [q]
  refine call_of (s_sunit) rfl (by simp) ?_
  try simp -dsimp
  try (first | exact fp_one (by decide) | refine fp_and (by decide) ?_)
  refine call_of (wcode) rfl (by simp) ?_
  try simp -dsimp
  try (first | exact fp_one (by decide) | refine fp_and (by decide) ?_)
  refine call_of (wst) rfl (by simp) ?_
  try simp -dsimp
  try (first | exact fp_one (by decide) | refine fp_and (by decide) ?_)
  refine callM_of rfl (w1) (by simp) ?_
  try simp -dsimp
  try (first | exact fp_one (by decide) | refine fp_and (by decide) ?_)
  refine ⟨l1, fun m1 m2 m3 m4 hm' => ?_⟩
  obtain rfl : m = (m1, m2, m3, m4) := Option.some.inj (hm.symm.trans hm')
  refine callM_of rfl (w2) (by simp) ?_
  try simp -dsimp
  try (first | exact fp_one (by decide) | refine fp_and (by decide) ?_)
  refine callM_of rfl (w3) (by simp) ?_
  try simp -dsimp
  try (first | exact fp_one (by decide) | refine fp_and (by decide) ?_)
  rw [w64 (by omega) (by omega), w64 (by omega) (by omega)]
  exact ⟨rfl, rfl⟩
noncomputable def dgL (code : List Int) (f a b c : Int) : Nat → List G6 → Sr → List G6 × Sr
  | 0, l, s => (l, s)
  | k + 1, l, s => dgL code f a b c k (l ++ [redG a b c (dmG code f a b c s).1]) (dmG code f a b c s).2
theorem mt_el {f a b c : Int} {g : G6} (ha : 1 ≤ a) (hc : 1 ≤ c) (hf : 0 ≤ f ∧ f ≤ 1) (h : g.1 ∈ mtL f a b c) : elG f a b c (redG a b c g) = true := by
  obtain ⟨h1, h2⟩ := List.mem_filter.1 h
  exact el_red ha hc ((pmL_mem hf _ _ _ _).1 h1) h2
theorem dgL_ok {code : List Int} (hc : okC code) {f a b c : Int} (hf : 0 ≤ f ∧ f ≤ 1) (hok : okL a b c = true) : ∀ (k : Nat) (l : List G6) (s : Sr), okSr s → (∀ g ∈ l, elG f a b c g = true) → okSr (dgL code f a b c k l s).2 ∧ (∀ g ∈ (dgL code f a b c k l s).1, elG f a b c g = true) ∧ (dgL code f a b c k l s).1.length = l.length + k
  | 0, l, s, h, hl => ⟨h, hl, rfl⟩
  | k + 1, l, s, h, hl => by
    obtain ⟨ha, hcc, _, _⟩ := okL_spec.1 hok
    obtain ⟨o1, ⟨o2, _⟩, _⟩ := s_drawM code hc s h f a b c hf hok
    have := dgL_ok hc hf hok k (l ++ [redG a b c (dmG code f a b c s).1]) _ o1 (fun g hg => by
      rcases List.mem_append.1 hg with hg | hg
      · exact hl g hg
      · rw [List.mem_singleton.1 hg]
        exact mt_el ha.1 hcc.1 hf o2)
    refine ⟨this.1, this.2.1, ?_⟩
    show (dgL code f a b c k _ _).1.length = _
    rw [this.2.2]
    simp
    omega
noncomputable def dcL (code : List Int) (n : Int) : Nat → List Int → Sr → List Int × Sr
  | 0, l, s => (l, s)
  | k + 1, l, s => dcL code n k (l ++ [(nx code s n).1]) (nx code s n).2
theorem dcL_ok {code : List Int} (hc : okC code) {n : Int} (hn : 1 ≤ n ∧ n ≤ 1000) : ∀ (k : Nat) (l : List Int) (s : Sr), okSr s → (∀ x ∈ l, 0 ≤ x ∧ x < n) → okSr (dcL code n k l s).2 ∧ (∀ x ∈ (dcL code n k l s).1, 0 ≤ x ∧ x < n) ∧ (dcL code n k l s).1.length = l.length + k
  | 0, l, s, h, hl => ⟨h, hl, rfl⟩
  | k + 1, l, s, h, hl => by
    have o1 := nx_ok hc h (n := n) (by omega)
    have l1 := nx_lt hc h (n := n) (by omega)
    have := dcL_ok hc hn k (l ++ [(nx code s n).1]) _ o1 (fun x hx => by
      rcases List.mem_append.1 hx with hx | hx
      · exact hl x hx
      · rw [List.mem_singleton.1 hx]; exact l1)
    refine ⟨this.1, this.2.1, ?_⟩
    show (dcL code n k _ _).1.length = _
    rw [this.2.2]
    simp
    omega
theorem el_small {f a b c : Int} (hf : 0 ≤ f ∧ f ≤ 1) (hok : okL a b c = true) {g : G6} (h : elG f a b c g = true) : smallG g := by
  obtain ⟨ha, hcc, _, _⟩ := okL_spec.1 hok
  obtain ⟨⟨⟨h1, h2⟩, h3, h4⟩, ⟨h5, h6⟩, h7, h8⟩ := elG_spec hf h
  unfold smallG
  omega
theorem s_drawOn (code : List Int) (hc : okC code) (s : Sr) (hs : okSr s) (f a b c : Int) (hf : 0 ≤ f ∧ f ≤ 1) (hok : okL a b c = true) : ∃ (l : List Int) (s' : Sr), okSr s' ∧ okP f a b c l = true ∧ (∀ x ∈ l, x ≤ 4) ∧
    SpG Try.prog 43 [.ptr 0 0, vi f, aL a b c] [srC code s] (.ag [vi f, vi a, vi b, vi c, .sli 1]) [srC code s', .row 0 2 (is l)] := by
  obtain ⟨ha, hcc, hb, hac⟩ := okL_spec.1 hok
  have hpos := ac_pos ha.1 hcc.1
  have hcl : ((cl a c).length : Int) = a * c := by
    rw [cellsL_len, Int.natCast_mul, Int.toNat_of_nonneg (by omega), Int.toNat_of_nonneg (by omega)]
  have wcode := s_scode f a b c
  rw [if_pos ⟨hf.1, hf.2, hok⟩] at wcode
  have w1 := s_nx hc hs (n := 4) (by decide)
  have o1 := nx_ok hc hs (n := 4) (by decide)
  have l1 := nx_lt hc hs (n := 4) (by decide)
  generalize nx code s 4 = x1 at *
  obtain ⟨v1, s1⟩ := x1
  simp only at w1 o1 l1
  by_cases hv : 0 < v1
  · have w2 := s_nx hc o1 (n := 2) (by decide)
    have o2 := nx_ok hc o1 (n := 2) (by decide)
    have l2 := nx_lt hc o1 (n := 2) (by decide)
    generalize nx code s1 2 = x2 at *
    obtain ⟨v2, s2⟩ := x2
    simp only at w2 o2 l2
    obtain ⟨d1, d2, d3⟩ := dgL_ok hc hf hok (1 + v2).toNat [] s2 o2 (by simp)
    generalize hL : dgL code f a b c (1 + v2).toNat [] s2 = RL at *
    obtain ⟨L, s22⟩ := RL
    simp only at d1 d2 d3
    have hLl : L.length ≤ 2 := by simp at d3; omega
    have wcl := s_clos f a b c L hf hok d2 (by omega)
    have hgd := clos_gd hf ha.1 hcc.1 d2
    have hG : ∀ g ∈ srtL (closL a b c L), elG f a b c g = true := fun g hg => hgd.sub g (srtL_mem.1 hg)
    have hGl := hgd.len hf hok
    have hGp : 0 < (closL a b c L).length := List.length_pos_of_mem hgd.un
    generalize closL a b c L = G at *
    have hGl2 := srtL_len G
    have wn := s_numbers a b c (srtL G) hok ⟨by omega, by omega⟩ (fun g hg => el_small hf hok (hG g hg))
    generalize srtL G = G at *
    have hN := nuV_prop a b c (osV a b c G (cl a c).length) (a * c) (by omega) (osV a b c G (cl a c).length).length (by have := osV_len a b c G (cl a c).length; omega)
    generalize nuV a b c (osV a b c G (cl a c).length) (osV a b c G (cl a c).length).length = N at *
    have w3 := s_nx hc d1 (n := 3) (by decide)
    have o3 := nx_ok hc d1 (n := 3) (by decide)
    have l3 := nx_lt hc d1 (n := 3) (by decide)
    generalize nx code s22 3 = x3 at *
    obtain ⟨v3, s3⟩ := x3
    simp only at w3 o3 l3
    obtain ⟨c1, c2, c3⟩ := dcL_ok hc (n := 2 + v3) (by omega) N.length [] s3 o3 (by simp)
    generalize hcols : dcL code (2 + v3) N.length [] s3 = R at *
    obtain ⟨cols, s4⟩ := R
    simp only at c1 c2 c3
    have e2 : IntKind.i64.wrap (2 + v3) = 2 + v3 := w64 (by omega) (by omega)
    have e3 : IntKind.i64.wrap (1 + v2) = 1 + v2 := w64 (by omega) (by omega)
    have hcolp : okP f a b c (N.map fun i => (cols[i.toNat]?).getD 0) = true ∧ ∀ x ∈ (N.map fun i => (cols[i.toNat]?).getD 0), x ≤ 4 := by
      have hx : ∀ x ∈ (N.map fun i => (cols[i.toNat]?).getD 0), 0 ≤ x ∧ x ≤ 4 := fun x hx => by
        obtain ⟨i, hi, rfl⟩ := List.mem_map.1 hx
        obtain ⟨q1, q2⟩ := hN.2 i hi
        have hlt : i.toNat < cols.length := by rw [show cols.length = N.length by simpa using c3, hN.1]; omega
        rw [List.getElem?_eq_getElem hlt, Option.getD_some]
        have := c2 _ (List.getElem_mem hlt)
        omega
      refine ⟨okP_spec.2 ⟨hf, hok, by rw [List.length_map, hN.1]; omega, fun x h => by have := hx x h; omega⟩, fun x h => (hx x h).2⟩
    refine ⟨N.map fun i => (cols[i.toNat]?).getD 0, s4, c1, hcolp.1, hcolp.2, ?_⟩
    refine sg_of (m := fun f => f == 27 || f == 62) mixed Try.func43 k43 ?_
    simp -dsimp [q]
    refine call_of (wcode) rfl (by simp) ?_
    try simp -dsimp
    try (first | exact fp_one (by decide) | refine fp_and (by decide) ?_)
    refine call_of (s_sun) rfl (by simp) ?_
    try simp -dsimp
    try (first | exact fp_one (by decide) | refine fp_and (by decide) ?_)
    refine callM_of rfl (w1) (by simp) ?_
    try simp -dsimp
    try (first | exact fp_one (by decide) | refine fp_and (by decide) ?_)
    refine ⟨fun _ => ?_, fun h => absurd hv (by omega)⟩
    refine callM_of rfl (w2) (by simp) ?_
    try simp -dsimp
    try (first | exact fp_one (by decide) | refine fp_and (by decide) ?_)
    rw [e3]
    have e4 : (((1 + v2).toNat : Nat) : Int) = 1 + v2 := by omega
    refine awp_it (true :: true :: false :: false :: false :: true :: true :: true :: false :: true :: true :: []) (fun x : Nat × List G6 × Sr => [(10, vi x.1)]) (fun x => [(0, srC code x.2.2), (4, .row 6 84 (gs x.2.1))]) (fun x => x.1 ≤ 2 ∧ x.1 + x.2.1.length ≤ 2 ∧ okSr x.2.2 ∧ (∀ g ∈ x.2.1, elG f a b c g = true) ∧ dgL code f a b c x.1 x.2.1 x.2.2 = (L, s22)) (fun x => x.1) ((1 + v2).toNat, [], s2) ?_
    intro s0 e
    simp -dsimp at e
    subst e
    refine ⟨?_, ?_⟩
    · simp -dsimp [e4, o2, hL]
      omega
    rintro ⟨k, M, t⟩ ⟨g1, g2, g3, g5, g4⟩
    simp only at g1 g2 g3 g4 g5
    simp -dsimp [-Prod.forall, -Prod.exists]
    refine ⟨fun hk => ?_, fun hk => ?_⟩
    · obtain ⟨k', rfl⟩ : ∃ k', k = k' + 1 := ⟨k - 1, by omega⟩
      rw [dgL] at g4
      obtain ⟨ow, ⟨hmt, hm1, hm2⟩, wd⟩ := s_drawM code hc t g3 f a b c hf hok
      have hel := mt_el ha.1 hcc.1 hf hmt
      have wr := s_sgred a b c (dmG code f a b c t).1 ha hb hcc (by omega) (by omega)
      generalize redG a b c (dmG code f a b c t).1 = r at *
      generalize dmG code f a b c t = D at *
      obtain ⟨gd, td⟩ := D
      simp only at ow wd wr g4
      refine callM_of rfl (wd) (by simp) ?_
      try simp -dsimp
      try (first | exact fp_one (by decide) | refine fp_and (by decide) ?_)
      refine call_of (wr) rfl (by simp) ?_
      try simp -dsimp
      try (first | exact fp_one (by decide) | refine fp_and (by decide) ?_)
      refine ⟨⟨by omega, by omega⟩, by decide, k', _, td.1, td.2, ⟨w64 (by omega) (by omega), ⟨rfl, rfl⟩, rfl⟩, ⟨by omega, by simp; omega, ow, fun p1 p2 p3 p4 p5 p6 hp => ?_, g4⟩, by omega⟩
      rcases List.mem_append.1 hp with hp | hp
      · exact g5 _ hp
      · rw [List.mem_singleton.1 hp]
        exact hel
    · obtain rfl : k = 0 := by omega
      rw [dgL] at g4
      cases g4
      refine call_of (wcl) rfl (by simp) ?_
      try simp -dsimp
      try (first | exact fp_one (by decide) | refine fp_and (by decide) ?_)
      refine call_of (wn) rfl (by simp) ?_
      try simp -dsimp
      try (first | exact fp_one (by decide) | refine fp_and (by decide) ?_)
      refine callM_of rfl (w3) (by simp) ?_
      try simp -dsimp
      try (first | exact fp_one (by decide) | refine fp_and (by decide) ?_)
      rw [e2]
      refine awp_it (true :: false :: false :: false :: false :: false :: true :: true :: false :: false :: false :: true :: true :: true :: true :: []) (fun x : Nat × List Int × Sr => [(14, vi x.1)]) (fun x => [(0, srC code x.2.2), (4, .row 0 2 (is x.2.1))]) (fun x => x.1 ≤ N.length ∧ x.2.1.length = x.1 ∧ okSr x.2.2 ∧ dcL code (2 + v3) (N.length - x.1) x.2.1 x.2.2 = (cols, s4)) (fun x => N.length - x.1) (0, [], s3) ?_
      intro s0 e
      simp -dsimp at e
      subst e
      refine ⟨?_, ?_⟩
      · simp -dsimp [o3, hcols]
      rintro ⟨j, K, t⟩ ⟨g1, g2, g3, g4⟩
      simp only at g1 g2 g3 g4
      simp -dsimp [-Prod.forall, -Prod.exists]
      refine ⟨fun hj => ?_, fun hj => ?_⟩
      · obtain ⟨m, hm⟩ : ∃ m, N.length - j = m + 1 := ⟨N.length - j - 1, by omega⟩
        rw [hm, dcL] at g4
        have wx := s_nx hc g3 (n := 2 + v3) (by omega)
        have ox := nx_ok hc g3 (n := 2 + v3) (by omega)
        generalize nx code t (2 + v3) = xx at *
        obtain ⟨vx, tx⟩ := xx
        simp only at wx ox g4
        refine callM_of rfl (wx) (by simp) ?_
        try simp -dsimp
        try (first | exact fp_one (by decide) | refine fp_and (by decide) ?_)
        refine ⟨⟨by omega, by omega⟩, j + 1, _, tx.1, tx.2, ⟨by rw [w64 (by omega) (by omega)]; simp, ⟨rfl, rfl⟩, rfl⟩, ⟨by omega, by simp; omega, ox, ?_⟩, by omega⟩
        rw [show N.length - (j + 1) = m by omega]
        exact g4
      · rw [show N.length - j = 0 by omega, dcL] at g4
        cases g4
        have hjl : cols.length = N.length := by simpa using c3
        refine awp_it (false :: false :: false :: false :: false :: false :: true :: true :: false :: false :: false :: true :: true :: false :: false :: true :: []) (fun i : Nat => [(15, vi i)]) (fun i => [(5, .row 0 2 (is ((N.take i).map fun x => (cols[x.toNat]?).getD 0)))]) (fun i => i ≤ N.length) (fun i => N.length - i) 0 ?_
        intro s0 e
        simp -dsimp at e
        subst e
        refine ⟨?_, ?_⟩
        · simp
        intro i hi
        simp -dsimp
        refine ⟨fun h5 => ⟨h5, fun x hx => ?_⟩, fun h5 => ?_⟩
        · obtain ⟨q1, q2⟩ := hN.2 x (List.mem_of_getElem? hx)
          refine ⟨⟨q1, by omega⟩, by omega, fun y hy => ⟨⟨by omega, by omega⟩, by decide, i + 1, ⟨by rw [w64 (by omega) (by omega)]; simp, ?_⟩, by omega, by omega⟩⟩
          rw [List.take_add_one, List.getElem?_map, hx, Option.map_some, hy]
          rfl
        · rw [List.take_of_length_le (by rw [List.length_map]; omega)]
  -- no group but the unit
  have hG : ∀ g ∈ [unG], elG f a b c g = true := fun g hg => by rw [List.mem_singleton.1 hg]; exact el_un hf ha.1 hcc.1
  have wn := s_numbers a b c [unG] hok (by simp) (fun g hg => el_small hf hok (hG g hg))
  have hN := nuV_prop a b c (osV a b c [unG] (cl a c).length) (a * c) (by omega) (osV a b c [unG] (cl a c).length).length (by have := osV_len a b c [unG] (cl a c).length; omega)
  generalize nuV a b c (osV a b c [unG] (cl a c).length) (osV a b c [unG] (cl a c).length).length = N at *
  have w3 := s_nx hc o1 (n := 3) (by decide)
  have o3 := nx_ok hc o1 (n := 3) (by decide)
  have l3 := nx_lt hc o1 (n := 3) (by decide)
  generalize nx code s1 3 = x3 at *
  obtain ⟨v3, s3⟩ := x3
  simp only at w3 o3 l3
  obtain ⟨c1, c2, c3⟩ := dcL_ok hc (n := 2 + v3) (by omega) N.length [] s3 o3 (by simp)
  generalize hcols : dcL code (2 + v3) N.length [] s3 = R at *
  obtain ⟨cols, s4⟩ := R
  simp only at c1 c2 c3
  have e2 : IntKind.i64.wrap (2 + v3) = 2 + v3 := w64 (by omega) (by omega)
  have hcolp : okP f a b c (N.map fun i => (cols[i.toNat]?).getD 0) = true ∧ ∀ x ∈ (N.map fun i => (cols[i.toNat]?).getD 0), x ≤ 4 := by
    have hx : ∀ x ∈ (N.map fun i => (cols[i.toNat]?).getD 0), 0 ≤ x ∧ x ≤ 4 := fun x hx => by
      obtain ⟨i, hi, rfl⟩ := List.mem_map.1 hx
      obtain ⟨q1, q2⟩ := hN.2 i hi
      have hlt : i.toNat < cols.length := by rw [show cols.length = N.length by simpa using c3, hN.1]; omega
      rw [List.getElem?_eq_getElem hlt, Option.getD_some]
      have := c2 _ (List.getElem_mem hlt)
      omega
    refine ⟨okP_spec.2 ⟨hf, hok, by rw [List.length_map, hN.1]; omega, fun x h => by have := hx x h; omega⟩, fun x h => (hx x h).2⟩
  refine ⟨N.map fun i => (cols[i.toNat]?).getD 0, s4, c1, hcolp.1, hcolp.2, ?_⟩
  refine sg_of (m := fun f => f == 27 || f == 62) mixed Try.func43 k43 ?_
  simp -dsimp [q]
  refine call_of (wcode) rfl (by simp) ?_
  try simp -dsimp
  try (first | exact fp_one (by decide) | refine fp_and (by decide) ?_)
  refine call_of (s_sun) rfl (by simp) ?_
  try simp -dsimp
  try (first | exact fp_one (by decide) | refine fp_and (by decide) ?_)
  refine callM_of rfl (w1) (by simp) ?_
  try simp -dsimp
  try (first | exact fp_one (by decide) | refine fp_and (by decide) ?_)
  refine ⟨fun h => absurd h hv, fun _ => ?_⟩
  refine call_of (wn) rfl (by simp) ?_
  try simp -dsimp
  try (first | exact fp_one (by decide) | refine fp_and (by decide) ?_)
  refine callM_of rfl (w3) (by simp) ?_
  try simp -dsimp
  try (first | exact fp_one (by decide) | refine fp_and (by decide) ?_)
  rw [e2]
  refine awp_it (true :: false :: false :: false :: false :: false :: true :: true :: false :: false :: false :: true :: true :: true :: true :: []) (fun x : Nat × List Int × Sr => [(14, vi x.1)]) (fun x => [(0, srC code x.2.2), (4, .row 0 2 (is x.2.1))]) (fun x => x.1 ≤ N.length ∧ x.2.1.length = x.1 ∧ okSr x.2.2 ∧ dcL code (2 + v3) (N.length - x.1) x.2.1 x.2.2 = (cols, s4)) (fun x => N.length - x.1) (0, [], s3) ?_
  intro s0 e
  simp -dsimp at e
  subst e
  refine ⟨?_, ?_⟩
  · simp -dsimp [o3, hcols]
  rintro ⟨j, K, t⟩ ⟨g1, g2, g3, g4⟩
  simp only at g1 g2 g3 g4
  simp -dsimp [-Prod.forall, -Prod.exists]
  refine ⟨fun hj => ?_, fun hj => ?_⟩
  · obtain ⟨m, hm⟩ : ∃ m, N.length - j = m + 1 := ⟨N.length - j - 1, by omega⟩
    rw [hm, dcL] at g4
    have wx := s_nx hc g3 (n := 2 + v3) (by omega)
    have ox := nx_ok hc g3 (n := 2 + v3) (by omega)
    generalize nx code t (2 + v3) = xx at *
    obtain ⟨vx, tx⟩ := xx
    simp only at wx ox g4
    refine callM_of rfl (wx) (by simp) ?_
    try simp -dsimp
    try (first | exact fp_one (by decide) | refine fp_and (by decide) ?_)
    refine ⟨⟨by omega, by omega⟩, j + 1, _, tx.1, tx.2, ⟨by rw [w64 (by omega) (by omega)]; simp, ⟨rfl, rfl⟩, rfl⟩, ⟨by omega, by simp; omega, ox, ?_⟩, by omega⟩
    rw [show N.length - (j + 1) = m by omega]
    exact g4
  · rw [show N.length - j = 0 by omega, dcL] at g4
    cases g4
    have hjl : cols.length = N.length := by simpa using c3
    refine awp_it (false :: false :: false :: false :: false :: false :: true :: true :: false :: false :: false :: true :: true :: false :: false :: true :: []) (fun i : Nat => [(15, vi i)]) (fun i => [(5, .row 0 2 (is ((N.take i).map fun x => (cols[x.toNat]?).getD 0)))]) (fun i => i ≤ N.length) (fun i => N.length - i) 0 ?_
    intro s0 e
    simp -dsimp at e
    subst e
    refine ⟨?_, ?_⟩
    · simp
    intro i hi
    simp -dsimp
    refine ⟨fun h5 => ⟨h5, fun x hx => ?_⟩, fun h5 => ?_⟩
    · obtain ⟨q1, q2⟩ := hN.2 x (List.mem_of_getElem? hx)
      refine ⟨⟨q1, by omega⟩, by omega, fun y hy => ⟨⟨by omega, by omega⟩, by decide, i + 1, ⟨by rw [w64 (by omega) (by omega)]; simp, ?_⟩, by omega, by omega⟩⟩
      rw [List.take_add_one, List.getElem?_map, hx, Option.map_some, hy]
      rfl
    · rw [List.take_of_length_le (by rw [List.length_map]; omega)]
end Go.Proofs.YtgkhakhkebjbpaaEv
namespace Go.Proofs.YtgkhakhkebjbpaaEv
open Go Go.Proofs
set_option maxRecDepth 10000
set_option maxHeartbeats 2000000
theorem nx_all {code : List Int} (hc : okC code) {s : Sr} (hs : okSr s) {n : Int} (hn : 1 ≤ n ∧ n ≤ 9223372036854775807) : ∃ v s', okSr s' ∧ (0 ≤ v ∧ v < n) ∧ SpG Try.prog 27 [.ptr 0 0, vi n] [srC code s] (vi v) [srC code s'] := ⟨_, _, nx_ok hc hs hn.2, nx_lt hc hs hn, s_nx hc hs hn.2⟩
theorem s_frD (code : List Int) (hc : okC code) (s : Sr) (hs : okSr s) : ∃ (f : Int) (s' : Sr), okSr s' ∧ (-1 ≤ f ∧ f ≤ 2) ∧ SpG Try.prog 58 [.ptr 0 0] [srC code s] (vi f) [srC code s'] := by
  obtain ⟨v1, s1, o1, l1, w1⟩ := nx_all hc hs (n := 40) (by decide)
  by_cases hv : v1 = 0
  · obtain ⟨x, s2, o2, hx, w2⟩ := s_pick code hc s1 o1 [-1, 2] (by simp) 2
    refine ⟨x, s2, o2, by simp at hx; omega, ?_⟩
    refine sg_of (m := fun f => f == 27 || f == 44) mixed Try.func58 k58 ?_
    simp -dsimp [q]
    refine callM_of rfl (w1) (by simp) ?_
    try simp -dsimp
    try (first | exact fp_one (by decide) | refine fp_and (by decide) ?_)
    refine ⟨fun _ => ?_, fun h => absurd hv h⟩
    refine callM_of rfl ((w2 : SpG Try.prog _ [.ptr 0 0, .sli 1] [srC code s1, .row 0 2 [.int .i64 (-1), .int .i64 2]] (vi x) [srC code s2, .row 0 2 (is [-1, 2])])) (by simp) ?_
    try simp -dsimp
    try (first | exact fp_one (by decide) | refine fp_and (by decide) ?_)
  · obtain ⟨x, s2, o2, l2, w2⟩ := nx_all hc o1 (n := 2) (by decide)
    refine ⟨x, s2, o2, by omega, ?_⟩
    refine sg_of (m := fun f => f == 27 || f == 44) mixed Try.func58 k58 ?_
    simp -dsimp [q]
    refine callM_of rfl (w1) (by simp) ?_
    try simp -dsimp
    try (first | exact fp_one (by decide) | refine fp_and (by decide) ?_)
    refine ⟨fun h => absurd h hv, fun _ => ?_⟩
    refine callM_of rfl (w2) (by simp) ?_
    try simp -dsimp
    try (first | exact fp_one (by decide) | refine fp_and (by decide) ?_)
def smL (a b c : Int) : Prop := a.natAbs ≤ 1000 ∧ b.natAbs ≤ 1000 ∧ c.natAbs ≤ 1000
theorem s_latD (code : List Int) (hc : okC code) (s : Sr) (hs : okSr s) : ∃ (a b c : Int) (s' : Sr), okSr s' ∧ smL a b c ∧ SpG Try.prog 59 [.ptr 0 0] [srC code s] (aL a b c) [srC code s'] := by
  obtain ⟨v1, s1, o1, l1, w1⟩ := nx_all hc hs (n := 6) (by decide)
  obtain ⟨v2, s2, o2, l2, w2⟩ := nx_all hc o1 (n := 6) (by decide)
  obtain ⟨v3, s3, o3, l3, w3⟩ := nx_all hc o2 (n := 1 + v1) (by omega)
  obtain ⟨v4, s4, o4, l4, w4⟩ := nx_all hc o3 (n := 60) (by decide)
  have e1 : IntKind.i64.wrap (1 + v1) = 1 + v1 := w64 (by omega) (by omega)
  have e2 : IntKind.i64.wrap (1 + v2) = 1 + v2 := w64 (by omega) (by omega)
  by_cases h0 : v4 = 0
  · obtain ⟨x, s5, o5, hx, w5⟩ := s_pick code hc s4 o4 [0, 64, 65, 8] (by simp) 2
    refine ⟨x, v3, 1 + v2, s5, o5, by unfold smL; simp at hx; omega, ?_⟩
    refine sg_of (m := fun f => f == 27 || f == 44) mixed Try.func59 k59 ?_
    simp -dsimp [q]
    refine callM_of rfl (w1) (by simp) ?_
    try simp -dsimp
    try (first | exact fp_one (by decide) | refine fp_and (by decide) ?_)
    refine callM_of rfl (w2) (by simp) ?_
    try simp -dsimp
    try (first | exact fp_one (by decide) | refine fp_and (by decide) ?_)
    rw [e1, e2]
    refine callM_of rfl (w3) (by simp) ?_
    try simp -dsimp
    try (first | exact fp_one (by decide) | refine fp_and (by decide) ?_)
    refine callM_of rfl (w4) (by simp) ?_
    try simp -dsimp
    try (first | exact fp_one (by decide) | refine fp_and (by decide) ?_)
    refine ⟨fun _ => ?_, fun h => absurd h0 h⟩
    refine callM_of rfl ((w5 : SpG Try.prog _ [.ptr 0 0, .sli 1] [srC code s4, .row 0 2 [.int .i64 0, .int .i64 64, .int .i64 65, .int .i64 8]] (vi x) [srC code s5, .row 0 2 (is [0, 64, 65, 8])])) (by simp) ?_
    try simp -dsimp
    try (first | exact fp_one (by decide) | refine fp_and (by decide) ?_)
  by_cases h1 : v4 = 1
  · obtain ⟨x, s5, o5, hx, w5⟩ := s_pick code hc s4 o4 [-1, 1 + v1, 1 + v1 - 1] (by simp) 2
    have e3 : IntKind.i64.wrap (1 + v1 - 1) = 1 + v1 - 1 := w64 (by omega) (by omega)
    refine ⟨1 + v1, x, 1 + v2, s5, o5, by unfold smL; simp at hx; omega, ?_⟩
    refine sg_of (m := fun f => f == 27 || f == 44) mixed Try.func59 k59 ?_
    simp -dsimp [q]
    refine callM_of rfl (w1) (by simp) ?_
    try simp -dsimp
    try (first | exact fp_one (by decide) | refine fp_and (by decide) ?_)
    refine callM_of rfl (w2) (by simp) ?_
    try simp -dsimp
    try (first | exact fp_one (by decide) | refine fp_and (by decide) ?_)
    rw [e1, e2]
    refine callM_of rfl (w3) (by simp) ?_
    try simp -dsimp
    try (first | exact fp_one (by decide) | refine fp_and (by decide) ?_)
    refine callM_of rfl (w4) (by simp) ?_
    try simp -dsimp
    try (first | exact fp_one (by decide) | refine fp_and (by decide) ?_)
    refine ⟨fun h => absurd h h0, fun _ => ⟨fun _ => ?_, fun h => absurd h1 h⟩⟩
    rw [e3]
    refine callM_of rfl ((w5 : SpG Try.prog _ [.ptr 0 0, .sli 1] [srC code s4, .row 0 2 [.int .i64 (-1), .int .i64 (1 + v1), .int .i64 (1 + v1 - 1)]] (vi x) [srC code s5, .row 0 2 (is [-1, 1 + v1, 1 + v1 - 1])])) (by simp) ?_
    try simp -dsimp
    try (first | exact fp_one (by decide) | refine fp_and (by decide) ?_)
  by_cases h2 : v4 = 2
  · obtain ⟨x, s5, o5, hx, w5⟩ := s_pick code hc s4 o4 [8, 9] (by simp) 2
    refine ⟨8, 3, x, s5, o5, by unfold smL; simp at hx; omega, ?_⟩
    refine sg_of (m := fun f => f == 27 || f == 44) mixed Try.func59 k59 ?_
    simp -dsimp [q]
    refine callM_of rfl (w1) (by simp) ?_
    try simp -dsimp
    try (first | exact fp_one (by decide) | refine fp_and (by decide) ?_)
    refine callM_of rfl (w2) (by simp) ?_
    try simp -dsimp
    try (first | exact fp_one (by decide) | refine fp_and (by decide) ?_)
    rw [e1, e2]
    refine callM_of rfl (w3) (by simp) ?_
    try simp -dsimp
    try (first | exact fp_one (by decide) | refine fp_and (by decide) ?_)
    refine callM_of rfl (w4) (by simp) ?_
    try simp -dsimp
    try (first | exact fp_one (by decide) | refine fp_and (by decide) ?_)
    refine ⟨fun h => absurd h h0, fun _ => ⟨fun h => absurd h h1, fun _ => ⟨fun _ => ?_, fun h => absurd h2 h⟩⟩⟩
    refine callM_of rfl ((w5 : SpG Try.prog _ [.ptr 0 0, .sli 1] [srC code s4, .row 0 2 [.int .i64 8, .int .i64 9]] (vi x) [srC code s5, .row 0 2 (is [8, 9])])) (by simp) ?_
    try simp -dsimp
    try (first | exact fp_one (by decide) | refine fp_and (by decide) ?_)
  · refine ⟨1 + v1, v3, 1 + v2, s4, o4, by unfold smL; omega, ?_⟩
    refine sg_of (m := fun f => f == 27 || f == 44) mixed Try.func59 k59 ?_
    simp -dsimp [q]
    refine callM_of rfl (w1) (by simp) ?_
    try simp -dsimp
    try (first | exact fp_one (by decide) | refine fp_and (by decide) ?_)
    refine callM_of rfl (w2) (by simp) ?_
    try simp -dsimp
    try (first | exact fp_one (by decide) | refine fp_and (by decide) ?_)
    rw [e1, e2]
    refine callM_of rfl (w3) (by simp) ?_
    try simp -dsimp
    try (first | exact fp_one (by decide) | refine fp_and (by decide) ?_)
    refine callM_of rfl (w4) (by simp) ?_
    try simp -dsimp
    try (first | exact fp_one (by decide) | refine fp_and (by decide) ?_)
    exact ⟨fun h => absurd h h0, fun _ => ⟨fun h => absurd h h1, fun _ h => absurd h h2⟩⟩
theorem s_flD (code : List Int) (hc : okC code) (s : Sr) (hs : okSr s) : ∃ (f a b c : Int) (s' : Sr), okSr s' ∧ (-1 ≤ f ∧ f ≤ 2) ∧ smL a b c ∧ SpG Try.prog 42 [.ptr 0 0] [srC code s] (.tu [vi f, aL a b c]) [srC code s'] := by
  obtain ⟨f, s1, o1, l1, w1⟩ := s_frD code hc s hs
  obtain ⟨v2, s2, o2, l2, w2⟩ := nx_all hc o1 (n := 5) (by decide)
  by_cases h0 : v2 = 0
  · obtain ⟨a, b, c, s3, o3, hsm, w3⟩ := s_latD code hc s2 o2
    refine ⟨f, a, b, c, s3, o3, l1, hsm, ?_⟩
    refine sg_of (m := fun f => f == 27 || f == 58 || f == 59) mixed Try.func42 k42 ?_
    simp -dsimp [q]
    refine callM_of rfl (w1) (by simp) ?_
    try simp -dsimp
    try (first | exact fp_one (by decide) | refine fp_and (by decide) ?_)
    refine callM_of rfl (w2) (by simp) ?_
    try simp -dsimp
    try (first | exact fp_one (by decide) | refine fp_and (by decide) ?_)
    refine ⟨fun _ => ?_, fun h => absurd h0 h⟩
    refine callM_of rfl (w3) (by simp) ?_
    try simp -dsimp
    try (first | exact fp_one (by decide) | refine fp_and (by decide) ?_)
  by_cases h1 : v2 = 1
  · obtain ⟨v3, s3, o3, l3, w3⟩ := nx_all hc o2 (n := 4) (by decide)
    obtain ⟨v4, s4, o4, l4, w4⟩ := nx_all hc o3 (n := 4) (by decide)
    refine ⟨f, 1 + v3, 0, 1 + v4, s4, o4, l1, by unfold smL; omega, ?_⟩
    refine sg_of (m := fun f => f == 27 || f == 58 || f == 59) mixed Try.func42 k42 ?_
    simp -dsimp [q]
    refine callM_of rfl (w1) (by simp) ?_
    try simp -dsimp
    try (first | exact fp_one (by decide) | refine fp_and (by decide) ?_)
    refine callM_of rfl (w2) (by simp) ?_
    try simp -dsimp
    try (first | exact fp_one (by decide) | refine fp_and (by decide) ?_)
    refine ⟨fun h => absurd h h0, fun _ => ⟨fun _ => ?_, fun h => absurd h1 h⟩⟩
    refine callM_of rfl (w3) (by simp) ?_
    try simp -dsimp
    try (first | exact fp_one (by decide) | refine fp_and (by decide) ?_)
    refine callM_of rfl (w4) (by simp) ?_
    try simp -dsimp
    try (first | exact fp_one (by decide) | refine fp_and (by decide) ?_)
    exact ⟨w64 (by omega) (by omega), w64 (by omega) (by omega)⟩
  by_cases h2 : v2 = 2
  · by_cases hf : f = 0
    · refine ⟨f, 2, 1, 1, s2, o2, l1, by unfold smL; omega, ?_⟩
      refine sg_of (m := fun f => f == 27 || f == 58 || f == 59) mixed Try.func42 k42 ?_
      simp -dsimp [q]
      refine callM_of rfl (w1) (by simp) ?_
      try simp -dsimp
      try (first | exact fp_one (by decide) | refine fp_and (by decide) ?_)
      refine callM_of rfl (w2) (by simp) ?_
      try simp -dsimp
      try (first | exact fp_one (by decide) | refine fp_and (by decide) ?_)
      exact ⟨fun h => absurd h h0, fun _ => ⟨fun h => absurd h h1, fun _ => ⟨fun _ => hf, fun h => absurd h2 h⟩⟩⟩
    · refine ⟨f, 3, 1, 1, s2, o2, l1, by unfold smL; omega, ?_⟩
      refine sg_of (m := fun f => f == 27 || f == 58 || f == 59) mixed Try.func42 k42 ?_
      simp -dsimp [q]
      refine callM_of rfl (w1) (by simp) ?_
      try simp -dsimp
      try (first | exact fp_one (by decide) | refine fp_and (by decide) ?_)
      refine callM_of rfl (w2) (by simp) ?_
      try simp -dsimp
      try (first | exact fp_one (by decide) | refine fp_and (by decide) ?_)
      exact ⟨fun h => absurd h h0, fun _ => ⟨fun h => absurd h h1, fun _ => ⟨fun _ h => absurd h hf, fun h => absurd h2 h⟩⟩⟩
  · obtain ⟨v3, s3, o3, l3, w3⟩ := nx_all hc o2 (n := 4) (by decide)
    refine ⟨f, 1 + v3, 0, 1 + v3, s3, o3, l1, by unfold smL; omega, ?_⟩
    refine sg_of (m := fun f => f == 27 || f == 58 || f == 59) mixed Try.func42 k42 ?_
    simp -dsimp [q]
    refine callM_of rfl (w1) (by simp) ?_
    try simp -dsimp
    try (first | exact fp_one (by decide) | refine fp_and (by decide) ?_)
    refine callM_of rfl (w2) (by simp) ?_
    try simp -dsimp
    try (first | exact fp_one (by decide) | refine fp_and (by decide) ?_)
    refine ⟨fun h => absurd h h0, fun _ => ⟨fun h => absurd h h1, fun _ => ⟨fun h => absurd h h2, fun _ => ?_⟩⟩⟩
    refine callM_of rfl (w3) (by simp) ?_
    try simp -dsimp
    try (first | exact fp_one (by decide) | refine fp_and (by decide) ?_)
    exact w64 (by omega) (by omega)
end Go.Proofs.YtgkhakhkebjbpaaEv
namespace Go.Proofs.YtgkhakhkebjbpaaEv
open Go Go.Proofs
set_option maxRecDepth 10000
set_option maxHeartbeats 2000000
abbrev dcC (code : List Int) (s : Sr) : Ck := .box [.v (cdV code), vi s.1, .v (.int .u64 s.2)]
theorem and24 (a : Nat) : 0 ≤ IntKind.i64.wrap (IntKind.u64.wrap ((a &&& 16777215 % 2 ^ IntKind.u64.bits : Nat) : Int)) ∧ IntKind.i64.wrap (IntKind.u64.wrap ((a &&& 16777215 % 2 ^ IntKind.u64.bits : Nat) : Int)) ≤ 16777215 := by
  have h : (a &&& 16777215 % 2 ^ IntKind.u64.bits) ≤ 16777215 := Nat.le_trans Nat.and_le_right (by decide)
  generalize (a &&& 16777215 % 2 ^ IntKind.u64.bits) = x at *
  have e : IntKind.u64.wrap (x : Int) = x := Int.emod_eq_of_lt (by omega) (by show (x : Int) < 18446744073709551616; omega)
  rw [e, w64 (by omega) (by omega)]
  omega
end Go.Proofs.YtgkhakhkebjbpaaEv
namespace Go.Proofs.YtgkhakhkebjbpaaEv
open Go Go.Proofs
set_option maxRecDepth 10000
set_option maxHeartbeats 2000000
abbrev pD (f a b c : Int) (j : Nat) : A := .ag [vi f, vi a, vi b, vi c, .sli j]
theorem s_drawAny (code : List Int) (hc : okC code) (s : Sr) (hs : okSr s) (f a b c : Int) : ∃ (l : List Int) (s' : Sr), okSr s' ∧ l.length ≤ 64 ∧ SpG Try.prog 43 [.ptr 0 0, vi f, aL a b c] [srC code s] (pD f a b c 1) [srC code s', .row 0 2 (is l)] := by
  by_cases h : (0 ≤ f ∧ f ≤ 1) ∧ okL a b c = true
  · obtain ⟨l, s', h1, h2, _, h3⟩ := s_drawOn code hc s hs f a b c h.1 h.2
    obtain ⟨_, k2, k3, _⟩ := okP_spec.1 h2
    obtain ⟨_, _, _, k4⟩ := okL_spec.1 k2
    exact ⟨l, s', h1, by omega, h3⟩
  · have w := s_scode f a b c
    rw [if_neg (fun e => h ⟨⟨e.1, e.2.1⟩, e.2.2⟩)] at w
    refine ⟨[], s, hs, by simp, ?_⟩
    refine sg_of (m := fun f => f == 27 || f == 62) mixed Try.func43 k43 ?_
    simp -dsimp [q]
    refine call_of (w) rfl (by simp) ?_
    try simp -dsimp
    try (first | exact fp_one (by decide) | refine fp_and (by decide) ?_)
theorem s_patD (code : List Int) (hc : okC code) (s : Sr) (hs : okSr s) : ∃ (f a b c : Int) (l : List Int) (s' : Sr), okSr s' ∧ l.length ≤ 65 ∧ SpG Try.prog 19 [.ptr 0 0] [srC code s] (pD f a b c 1) [srC code s', .row 0 2 (is l)] := by
  obtain ⟨f, a, b, c, s1, o1, l1, hsm, w1⟩ := s_flD code hc s hs
  obtain ⟨l, s2, o2, hl, w2⟩ := s_drawAny code hc s1 o1 f a b c
  obtain ⟨v3, s3, o3, l3, w3⟩ := nx_all hc o2 (n := 60) (by decide)
  by_cases h0 : v3 = 0
  · refine ⟨f, a, b, c, l ++ [0], s3, o3, by simp; omega, ?_⟩
    refine sg_of (m := fun f => f == 27 || f == 44 || f == 42 || f == 43) mixed Try.func19 k19 ?_
    simp -dsimp [q]
    refine callM_of rfl (w1) (by simp) ?_
    try simp -dsimp
    try (first | exact fp_one (by decide) | refine fp_and (by decide) ?_)
    refine callM_of rfl (w2) (by simp) ?_
    try simp -dsimp
    try (first | exact fp_one (by decide) | refine fp_and (by decide) ?_)
    refine callM_of rfl (w3) (by simp) ?_
    try simp -dsimp
    try (first | exact fp_one (by decide) | refine fp_and (by decide) ?_)
    refine ⟨fun _ => ?_, fun h => absurd h0 h⟩
    exact ⟨by omega, by omega⟩
  by_cases h1 : v3 = 1 ∧ 0 < l.length
  · obtain ⟨x, s4, o4, hx, w4⟩ := s_pick code hc s3 o3 [-1, 9, 10] (by simp) 2
    refine ⟨f, a, b, c, l.set 0 x, s4, o4, by simp; omega, ?_⟩
    refine sg_of (m := fun f => f == 27 || f == 44 || f == 42 || f == 43) mixed Try.func19 k19 ?_
    simp -dsimp [q]
    refine callM_of rfl (w1) (by simp) ?_
    try simp -dsimp
    try (first | exact fp_one (by decide) | refine fp_and (by decide) ?_)
    refine callM_of rfl (w2) (by simp) ?_
    try simp -dsimp
    try (first | exact fp_one (by decide) | refine fp_and (by decide) ?_)
    refine callM_of rfl (w3) (by simp) ?_
    try simp -dsimp
    try (first | exact fp_one (by decide) | refine fp_and (by decide) ?_)
    refine ⟨fun h => absurd h h0, fun _ => ⟨fun _ => ⟨fun _ => ?_, fun h => absurd h1.2 (by rw [h]; simp)⟩, fun h => absurd h1.1 h⟩⟩
    refine callM_of rfl ((w4 : SpG Try.prog _ [.ptr 0 0, .sli 1] [srC code s3, .row 0 2 [.int .i64 (-1), .int .i64 9, .int .i64 10]] (vi x) [srC code s4, .row 0 2 (is [-1, 9, 10])])) (by simp) ?_
    try simp -dsimp
    try (first | exact fp_one (by decide) | refine fp_and (by decide) ?_)
    exact ⟨h1.2, by decide⟩
  · refine ⟨f, a, b, c, l, s3, o3, by omega, ?_⟩
    refine sg_of (m := fun f => f == 27 || f == 44 || f == 42 || f == 43) mixed Try.func19 k19 ?_
    simp -dsimp [q]
    refine callM_of rfl (w1) (by simp) ?_
    try simp -dsimp
    try (first | exact fp_one (by decide) | refine fp_and (by decide) ?_)
    refine callM_of rfl (w2) (by simp) ?_
    try simp -dsimp
    try (first | exact fp_one (by decide) | refine fp_and (by decide) ?_)
    refine callM_of rfl (w3) (by simp) ?_
    try simp -dsimp
    try (first | exact fp_one (by decide) | refine fp_and (by decide) ?_)
    refine ⟨fun h => absurd h h0, fun _ => ?_⟩
    exact fun e1 e2 => absurd ⟨e1, e2⟩ h1
noncomputable def shL (code : List Int) : Nat → List (Int × Int) → Sr → List (Int × Int) × Sr
  | 0, l, s => (l, s)
  | k + 1, l, s => if (nx code s 3).1 = 0 then shL code k (l ++ [((nx code (nx code s 3).2 3).1 - 1, (nx code (nx code (nx code s 3).2 3).2 3).1 - 1)]) (nx code (nx code (nx code s 3).2 3).2 3).2 else shL code k (l ++ [(0, 0)]) (nx code s 3).2
theorem shL_ok {code : List Int} (hc : okC code) : ∀ (k : Nat) (l : List (Int × Int)) (s : Sr), okSr s → okSr (shL code k l s).2 ∧ (shL code k l s).1.length = l.length + k
  | 0, l, s, h => ⟨h, rfl⟩
  | k + 1, l, s, h => by
    have o1 := nx_ok hc h (n := 3) (by decide)
    have o2 := nx_ok hc o1 (n := 3) (by decide)
    have o3 := nx_ok hc o2 (n := 3) (by decide)
    unfold shL
    split
    · have := shL_ok hc k (l ++ [((nx code (nx code s 3).2 3).1 - 1, (nx code (nx code (nx code s 3).2 3).2 3).1 - 1)]) _ o3
      exact ⟨this.1, by rw [this.2]; simp; omega⟩
    · have := shL_ok hc k (l ++ [(0, 0)]) _ o1
      exact ⟨this.1, by rw [this.2]; simp; omega⟩
end Go.Proofs.YtgkhakhkebjbpaaEv
namespace Go.Proofs.YtgkhakhkebjbpaaEv
open Go Go.Proofs
set_option maxRecDepth 10000
set_option maxHeartbeats 2000000
theorem s_inkD (code : List Int) (hc : okC code) (s : Sr) (hs : okSr s) : ∃ (k : Int) (s' : Sr), okSr s' ∧ (0 ≤ k ∧ k ≤ 10) ∧ SpG Try.prog 20 [.ptr 0 0] [srC code s] (vi k) [srC code s'] := by
  obtain ⟨v1, s1, o1, l1, w1⟩ := nx_all hc hs (n := 24) (by decide)
  by_cases h0 : v1 = 0
  · obtain ⟨x, s4, o4, hx, w4⟩ := s_pick code hc s1 o1 [0, 9, 10] (by simp) 2
    refine ⟨x, s4, o4, by simp at hx; omega, ?_⟩
    refine sg_of (m := fun f => f == 27 || f == 44) mixed Try.func20 k20 ?_
    simp -dsimp [q]
    refine callM_of rfl (w1) (by simp) ?_
    try simp -dsimp
    try (first | exact fp_one (by decide) | refine fp_and (by decide) ?_)
    refine ⟨fun _ => ?_, fun h => absurd h0 h⟩
    refine callM_of rfl ((w4 : SpG Try.prog _ [.ptr 0 0, .sli 1] [srC code s1, .row 0 2 [.int .i64 0, .int .i64 9, .int .i64 10]] (vi x) [srC code s4, .row 0 2 (is [0, 9, 10])])) (by simp) ?_
    try simp -dsimp
    try (first | exact fp_one (by decide) | refine fp_and (by decide) ?_)
  · obtain ⟨v2, s2, o2, l2, w2⟩ := nx_all hc o1 (n := 3) (by decide)
    refine ⟨1 + v2, s2, o2, by omega, ?_⟩
    refine sg_of (m := fun f => f == 27 || f == 44) mixed Try.func20 k20 ?_
    simp -dsimp [q]
    refine callM_of rfl (w1) (by simp) ?_
    try simp -dsimp
    try (first | exact fp_one (by decide) | refine fp_and (by decide) ?_)
    refine ⟨fun h => absurd h h0, fun _ => ?_⟩
    refine callM_of rfl (w2) (by simp) ?_
    try simp -dsimp
    try (first | exact fp_one (by decide) | refine fp_and (by decide) ?_)
    rw [w64 (n := 1 + v2) (by omega) (by omega)]
theorem s_dMO (code : List Int) (hc : okC code) : ∃ (f a b c : Int) (l : List Int) (ink : Int), l.length ≤ 65 ∧ (0 ≤ ink ∧ ink ≤ 10) ∧ Sp Try.prog 5 [.v (cdV code)] (.tu [aP f a b c l, vi ink]) [] := by
  obtain ⟨s, o, w⟩ := s_from code hc
  obtain ⟨f, a, b, c, l, s1, o1, hl, w1⟩ := s_patD code hc s o
  obtain ⟨ink, s2, o2, hk, w2⟩ := s_inkD code hc s1 o1
  refine ⟨f, a, b, c, l, ink, hl, hk, ?_⟩
  refine sp_of (m := fun f => f == 18 || f == 19 || f == 20) mixed Try.func5 k5 ?_
  simp -dsimp [q]
  refine callM_of rfl (w) (by simp) ?_
  try simp -dsimp
  try (first | exact fp_one (by decide) | refine fp_and (by decide) ?_)
  refine callM_of rfl (w1) (by simp) ?_
  try simp -dsimp
  try (first | exact fp_one (by decide) | refine fp_and (by decide) ?_)
  refine callM_of rfl (w2) (by simp) ?_
  try simp -dsimp
  try (first | exact fp_one (by decide) | refine fp_and (by decide) ?_)
theorem s_smaskO (f a b c : Int) (l : List Int) (ink : Int) (hl : l.length ≤ 1048576) : Sp Try.prog 26 [aP f a b c l, vi ink] (oP f a b c 0) [.row 0 2 (is (maskL l ink))] := by
  refine sp_of (m := no) mixed Try.func26 k26 ?_
  simp -dsimp [q]
  refine awp_it (false :: true :: true :: false :: true :: true :: true :: []) (fun i : Nat => [(6, vi i)]) (fun i => [(3, .row 0 2 (is ((maskL l ink).take i)))]) (fun i => i ≤ l.length) (fun i => l.length - i) 0 ?_
  intro s0 e
  simp -dsimp at e
  subst e
  refine ⟨?_, ?_⟩
  · simp
  intro i hi
  simp -dsimp [maskL_len]
  refine ⟨fun h1 => ⟨h1, fun z hz => ?_⟩, fun h1 => ?_⟩
  · have ht := maskL_take (ink := ink) hz
    constructor
    · intro e
      rw [if_pos e] at ht
      refine ⟨⟨by omega, by omega⟩, i + 1, ⟨by rw [w64 (by omega) (by omega)]; simp, ?_⟩, by omega, by omega⟩
      simp [ht]
    · intro e
      rw [if_neg e] at ht
      refine ⟨⟨by omega, by omega⟩, i + 1, ⟨by rw [w64 (by omega) (by omega)]; simp, ?_⟩, by omega, by omega⟩
      simp [ht]
  · rw [List.take_of_length_le (by rw [maskL_len]; omega)]
theorem s_dSM (code : List Int) (hc : okC code) : ∃ (f a b c : Int) (l : List Int), l.length ≤ 65 ∧ Sp Try.prog 11 [.v (cdV code)] (aP f a b c l) [] := by
  obtain ⟨s, o, w⟩ := s_from code hc
  obtain ⟨f, a, b, c, l, s1, o1, hl, w1⟩ := s_patD code hc s o
  obtain ⟨v2, s2, o2, l2, w2⟩ := nx_all hc o1 (n := 12) (by decide)
  by_cases h0 : v2 = 0
  · refine ⟨f, a, b, c, l, hl, ?_⟩
    refine sp_of (m := fun f => f == 18 || f == 19 || f == 27) mixed Try.func11 k11 ?_
    simp -dsimp [q]
    refine callM_of rfl (w) (by simp) ?_
    try simp -dsimp
    try (first | exact fp_one (by decide) | refine fp_and (by decide) ?_)
    refine callM_of rfl (w1) (by simp) ?_
    try simp -dsimp
    try (first | exact fp_one (by decide) | refine fp_and (by decide) ?_)
    refine callM_of rfl (w2) (by simp) ?_
    try simp -dsimp
    try (first | exact fp_one (by decide) | refine fp_and (by decide) ?_)
    try exact fun h => absurd h0 h
    try exact h0
  · obtain ⟨v3, s3, o3, l3, w3⟩ := nx_all hc o2 (n := 3) (by decide)
    have w4 := s_smaskO f a b c l v3 (by omega)
    refine ⟨f, a, b, c, maskL l v3, by rw [maskL_len]; exact hl, ?_⟩
    refine sp_of (m := fun f => f == 18 || f == 19 || f == 27) mixed Try.func11 k11 ?_
    simp -dsimp [q]
    refine callM_of rfl (w) (by simp) ?_
    try simp -dsimp
    try (first | exact fp_one (by decide) | refine fp_and (by decide) ?_)
    refine callM_of rfl (w1) (by simp) ?_
    try simp -dsimp
    try (first | exact fp_one (by decide) | refine fp_and (by decide) ?_)
    refine callM_of rfl (w2) (by simp) ?_
    try simp -dsimp
    try (first | exact fp_one (by decide) | refine fp_and (by decide) ?_)
    refine ⟨fun h => absurd h h0, fun _ => ?_⟩
    refine callM_of rfl (w3) (by simp) ?_
    try simp -dsimp
    try (first | exact fp_one (by decide) | refine fp_and (by decide) ?_)
    refine call_of (w4) rfl (by simp) ?_
    try simp -dsimp
    try (first | exact fp_one (by decide) | refine fp_and (by decide) ?_)
noncomputable def dmL (code : List Int) : Nat → Nat → List Int → Sr → List Int × Sr
  | 0, _, l, s => (l, s)
  | k + 1, i, l, s => if (nx code s 4).1 = 0 then dmL code k (i + 1) (l.set i (nx code (nx code s 4).2 2).1) (nx code (nx code s 4).2 2).2 else dmL code k (i + 1) l (nx code s 4).2
theorem dmL_ok {code : List Int} (hc : okC code) : ∀ (k i : Nat) (l : List Int) (s : Sr), okSr s → okSr (dmL code k i l s).2 ∧ (dmL code k i l s).1.length = l.length
  | 0, _, l, s, h => ⟨h, rfl⟩
  | k + 1, i, l, s, h => by
    have o1 := nx_ok hc h (n := 4) (by decide)
    have o2 := nx_ok hc o1 (n := 2) (by decide)
    unfold dmL
    split
    · have := dmL_ok hc k (i + 1) (l.set i (nx code (nx code s 4).2 2).1) _ o2
      exact ⟨this.1, by rw [this.2]; simp⟩
    · exact dmL_ok hc k (i + 1) l _ o1
theorem s_dOP (code : List Int) (hc : okC code) : ∃ (f a b c : Int) (l : List Int) (f' a' b' c' : Int) (l' : List Int) (ink : Int), l.length ≤ 65 ∧ l'.length ≤ 65 ∧ (0 ≤ ink ∧ ink ≤ 10) ∧ Sp Try.prog 8 [.v (cdV code)] (.tu [aP f a b c l, aP f' a' b' c' l', vi ink]) [] := by
  obtain ⟨s, o, w⟩ := s_from code hc
  obtain ⟨f, a, b, c, l, s1, o1, hl, w1⟩ := s_patD code hc s o
  obtain ⟨v2, s2, o2, l2, w2⟩ := nx_all hc o1 (n := 2) (by decide)
  have w3 := s_smaskO f a b c l (1 + v2) (by omega)
  obtain ⟨o4, l4⟩ := dmL_ok hc l.length 0 (maskL l (1 + v2)) s2 o2
  generalize hR : dmL code l.length 0 (maskL l (1 + v2)) s2 = R0 at *
  obtain ⟨R, s4⟩ := R0
  simp only [maskL_len] at o4 l4
  obtain ⟨v5, s5, o5, l5, w5⟩ := nx_all hc o4 (n := 20) (by decide)
  by_cases h0 : v5 = 0
  · obtain ⟨f', a', b', c', l', s6, o6, hl', w6⟩ := s_patD code hc s5 o5
    obtain ⟨ink, s7, o7, hk, w7⟩ := s_inkD code hc s6 o6
    refine ⟨f, a, b, c, l, f', a', b', c', l', ink, hl, hl', hk, ?_⟩
    refine sp_of (m := fun f => f == 18 || f == 19 || f == 27 || f == 20) mixed Try.func8 k8 ?_
    simp -dsimp [q]
    refine callM_of rfl (w) (by simp) ?_
    try simp -dsimp
    try (first | exact fp_one (by decide) | refine fp_and (by decide) ?_)
    refine callM_of rfl (w1) (by simp) ?_
    try simp -dsimp
    try (first | exact fp_one (by decide) | refine fp_and (by decide) ?_)
    refine callM_of rfl (w2) (by simp) ?_
    try simp -dsimp
    try (first | exact fp_one (by decide) | refine fp_and (by decide) ?_)
    rw [w64 (n := 1 + v2) (by omega) (by omega)]
    refine call_of (w3) rfl (by simp) ?_
    try simp -dsimp
    try (first | exact fp_one (by decide) | refine fp_and (by decide) ?_)
    refine awp_it (false :: false :: true :: true :: false :: true :: true :: true :: true :: []) (fun x : Nat × List Int × Sr => [(8, vi x.1)]) (fun x => [(2, srC code x.2.2), (6, .row 0 2 (is x.2.1))]) (fun x => x.1 ≤ l.length ∧ x.2.1.length = l.length ∧ okSr x.2.2 ∧ dmL code (l.length - x.1) x.1 x.2.1 x.2.2 = (R, s4)) (fun x => l.length - x.1) (0, maskL l (1 + v2), s2) ?_
    intro s0 e
    simp -dsimp at e
    subst e
    refine ⟨?_, ?_⟩
    · simp -dsimp [o2, maskL_len, hR]
    rintro ⟨j, K, t⟩ ⟨g1, g2, g3, g4⟩
    simp only at g1 g2 g3 g4
    simp -dsimp [-Prod.forall, -Prod.exists, g2]
    refine ⟨fun hj => ?_, fun hj => ?_⟩
    · obtain ⟨m, hm⟩ : ∃ m, l.length - j = m + 1 := ⟨l.length - j - 1, by omega⟩
      rw [hm, dmL] at g4
      have wx := s_nx hc g3 (n := 4) (by decide)
      have ox := nx_ok hc g3 (n := 4) (by decide)
      generalize nx code t 4 = xx at *
      obtain ⟨vx, tx⟩ := xx
      simp only at wx ox g4
      have wy := s_nx hc ox (n := 2) (by decide)
      have oy := nx_ok hc ox (n := 2) (by decide)
      generalize nx code tx 2 = xy at *
      obtain ⟨vy, ty⟩ := xy
      simp only at wy oy g4
      refine callM_of rfl (wx) (by simp) ?_
      try simp -dsimp
      try (first | exact fp_one (by decide) | refine fp_and (by decide) ?_)
      by_cases hx : vx = 0
      · rw [if_pos hx] at g4
        refine ⟨fun _ => ?_, fun h => absurd hx h⟩
        refine callM_of rfl (wy) (by simp) ?_
        try simp -dsimp
        try (first | exact fp_one (by decide) | refine fp_and (by decide) ?_)
        refine ⟨by omega, by decide, j + 1, _, ty.1, ty.2, ⟨by rw [w64 (by omega) (by omega)]; simp, ⟨rfl, rfl⟩, rfl⟩, ⟨by omega, by simp; omega, oy, ?_⟩, by omega⟩
        rw [show l.length - (j + 1) = m by omega]
        exact g4
      · rw [if_neg hx] at g4
        refine ⟨fun h => absurd h hx, fun _ => ?_⟩
        refine ⟨j + 1, K, tx.1, tx.2, ⟨by rw [w64 (by omega) (by omega)]; simp, ⟨rfl, rfl⟩, rfl⟩, ⟨by omega, by omega, ox, ?_⟩, by omega⟩
        rw [show l.length - (j + 1) = m by omega]
        exact g4
    · rw [show l.length - j = 0 by omega, dmL] at g4
      cases g4
      refine callM_of rfl (w5) (by simp) ?_
      try simp -dsimp
      try (first | exact fp_one (by decide) | refine fp_and (by decide) ?_)
      refine ⟨fun _ => ?_, fun h => absurd h0 h⟩
      refine callM_of rfl (w6) (by simp) ?_
      try simp -dsimp
      try (first | exact fp_one (by decide) | refine fp_and (by decide) ?_)
      refine callM_of rfl (w7) (by simp) ?_
      try simp -dsimp
      try (first | exact fp_one (by decide) | refine fp_and (by decide) ?_)
  obtain ⟨ink, s7, o7, hk, w7⟩ := s_inkD code hc s5 o5
  by_cases h1 : v5 = 1 ∧ 0 < l.length
  · refine ⟨f, a, b, c, l, f, a, b, c, R.set 0 2, ink, hl, by simp; omega, hk, ?_⟩
    refine sp_of (m := fun f => f == 18 || f == 19 || f == 27 || f == 20) mixed Try.func8 k8 ?_
    simp -dsimp [q]
    refine callM_of rfl (w) (by simp) ?_
    try simp -dsimp
    try (first | exact fp_one (by decide) | refine fp_and (by decide) ?_)
    refine callM_of rfl (w1) (by simp) ?_
    try simp -dsimp
    try (first | exact fp_one (by decide) | refine fp_and (by decide) ?_)
    refine callM_of rfl (w2) (by simp) ?_
    try simp -dsimp
    try (first | exact fp_one (by decide) | refine fp_and (by decide) ?_)
    rw [w64 (n := 1 + v2) (by omega) (by omega)]
    refine call_of (w3) rfl (by simp) ?_
    try simp -dsimp
    try (first | exact fp_one (by decide) | refine fp_and (by decide) ?_)
    refine awp_it (false :: false :: true :: true :: false :: true :: true :: true :: true :: []) (fun x : Nat × List Int × Sr => [(8, vi x.1)]) (fun x => [(2, srC code x.2.2), (6, .row 0 2 (is x.2.1))]) (fun x => x.1 ≤ l.length ∧ x.2.1.length = l.length ∧ okSr x.2.2 ∧ dmL code (l.length - x.1) x.1 x.2.1 x.2.2 = (R, s4)) (fun x => l.length - x.1) (0, maskL l (1 + v2), s2) ?_
    intro s0 e
    simp -dsimp at e
    subst e
    refine ⟨?_, ?_⟩
    · simp -dsimp [o2, maskL_len, hR]
    rintro ⟨j, K, t⟩ ⟨g1, g2, g3, g4⟩
    simp only at g1 g2 g3 g4
    simp -dsimp [-Prod.forall, -Prod.exists, g2]
    refine ⟨fun hj => ?_, fun hj => ?_⟩
    · obtain ⟨m, hm⟩ : ∃ m, l.length - j = m + 1 := ⟨l.length - j - 1, by omega⟩
      rw [hm, dmL] at g4
      have wx := s_nx hc g3 (n := 4) (by decide)
      have ox := nx_ok hc g3 (n := 4) (by decide)
      generalize nx code t 4 = xx at *
      obtain ⟨vx, tx⟩ := xx
      simp only at wx ox g4
      have wy := s_nx hc ox (n := 2) (by decide)
      have oy := nx_ok hc ox (n := 2) (by decide)
      generalize nx code tx 2 = xy at *
      obtain ⟨vy, ty⟩ := xy
      simp only at wy oy g4
      refine callM_of rfl (wx) (by simp) ?_
      try simp -dsimp
      try (first | exact fp_one (by decide) | refine fp_and (by decide) ?_)
      by_cases hx : vx = 0
      · rw [if_pos hx] at g4
        refine ⟨fun _ => ?_, fun h => absurd hx h⟩
        refine callM_of rfl (wy) (by simp) ?_
        try simp -dsimp
        try (first | exact fp_one (by decide) | refine fp_and (by decide) ?_)
        refine ⟨by omega, by decide, j + 1, _, ty.1, ty.2, ⟨by rw [w64 (by omega) (by omega)]; simp, ⟨rfl, rfl⟩, rfl⟩, ⟨by omega, by simp; omega, oy, ?_⟩, by omega⟩
        rw [show l.length - (j + 1) = m by omega]
        exact g4
      · rw [if_neg hx] at g4
        refine ⟨fun h => absurd h hx, fun _ => ?_⟩
        refine ⟨j + 1, K, tx.1, tx.2, ⟨by rw [w64 (by omega) (by omega)]; simp, ⟨rfl, rfl⟩, rfl⟩, ⟨by omega, by omega, ox, ?_⟩, by omega⟩
        rw [show l.length - (j + 1) = m by omega]
        exact g4
    · rw [show l.length - j = 0 by omega, dmL] at g4
      cases g4
      refine callM_of rfl (w5) (by simp) ?_
      try simp -dsimp
      try (first | exact fp_one (by decide) | refine fp_and (by decide) ?_)
      refine ⟨fun h => absurd h h0, fun _ => ⟨fun _ => ?_, fun h => absurd h1.1 h⟩⟩
      refine ⟨fun _ => ⟨by omega, ?_⟩, fun h => by
        have e1 := congrArg List.length h
        have e0 : ([] : List Int).length = 0 := rfl
        omega⟩
      refine callM_of rfl (w7) (by simp) ?_
      try simp -dsimp
      try (first | exact fp_one (by decide) | refine fp_and (by decide) ?_)
  · refine ⟨f, a, b, c, l, f, a, b, c, R, ink, hl, by omega, hk, ?_⟩
    refine sp_of (m := fun f => f == 18 || f == 19 || f == 27 || f == 20) mixed Try.func8 k8 ?_
    simp -dsimp [q]
    refine callM_of rfl (w) (by simp) ?_
    try simp -dsimp
    try (first | exact fp_one (by decide) | refine fp_and (by decide) ?_)
    refine callM_of rfl (w1) (by simp) ?_
    try simp -dsimp
    try (first | exact fp_one (by decide) | refine fp_and (by decide) ?_)
    refine callM_of rfl (w2) (by simp) ?_
    try simp -dsimp
    try (first | exact fp_one (by decide) | refine fp_and (by decide) ?_)
    rw [w64 (n := 1 + v2) (by omega) (by omega)]
    refine call_of (w3) rfl (by simp) ?_
    try simp -dsimp
    try (first | exact fp_one (by decide) | refine fp_and (by decide) ?_)
    refine awp_it (false :: false :: true :: true :: false :: true :: true :: true :: true :: []) (fun x : Nat × List Int × Sr => [(8, vi x.1)]) (fun x => [(2, srC code x.2.2), (6, .row 0 2 (is x.2.1))]) (fun x => x.1 ≤ l.length ∧ x.2.1.length = l.length ∧ okSr x.2.2 ∧ dmL code (l.length - x.1) x.1 x.2.1 x.2.2 = (R, s4)) (fun x => l.length - x.1) (0, maskL l (1 + v2), s2) ?_
    intro s0 e
    simp -dsimp at e
    subst e
    refine ⟨?_, ?_⟩
    · simp -dsimp [o2, maskL_len, hR]
    rintro ⟨j, K, t⟩ ⟨g1, g2, g3, g4⟩
    simp only at g1 g2 g3 g4
    simp -dsimp [-Prod.forall, -Prod.exists, g2]
    refine ⟨fun hj => ?_, fun hj => ?_⟩
    · obtain ⟨m, hm⟩ : ∃ m, l.length - j = m + 1 := ⟨l.length - j - 1, by omega⟩
      rw [hm, dmL] at g4
      have wx := s_nx hc g3 (n := 4) (by decide)
      have ox := nx_ok hc g3 (n := 4) (by decide)
      generalize nx code t 4 = xx at *
      obtain ⟨vx, tx⟩ := xx
      simp only at wx ox g4
      have wy := s_nx hc ox (n := 2) (by decide)
      have oy := nx_ok hc ox (n := 2) (by decide)
      generalize nx code tx 2 = xy at *
      obtain ⟨vy, ty⟩ := xy
      simp only at wy oy g4
      refine callM_of rfl (wx) (by simp) ?_
      try simp -dsimp
      try (first | exact fp_one (by decide) | refine fp_and (by decide) ?_)
      by_cases hx : vx = 0
      · rw [if_pos hx] at g4
        refine ⟨fun _ => ?_, fun h => absurd hx h⟩
        refine callM_of rfl (wy) (by simp) ?_
        try simp -dsimp
        try (first | exact fp_one (by decide) | refine fp_and (by decide) ?_)
        refine ⟨by omega, by decide, j + 1, _, ty.1, ty.2, ⟨by rw [w64 (by omega) (by omega)]; simp, ⟨rfl, rfl⟩, rfl⟩, ⟨by omega, by simp; omega, oy, ?_⟩, by omega⟩
        rw [show l.length - (j + 1) = m by omega]
        exact g4
      · rw [if_neg hx] at g4
        refine ⟨fun h => absurd h hx, fun _ => ?_⟩
        refine ⟨j + 1, K, tx.1, tx.2, ⟨by rw [w64 (by omega) (by omega)]; simp, ⟨rfl, rfl⟩, rfl⟩, ⟨by omega, by omega, ox, ?_⟩, by omega⟩
        rw [show l.length - (j + 1) = m by omega]
        exact g4
    · rw [show l.length - j = 0 by omega, dmL] at g4
      cases g4
      refine callM_of rfl (w5) (by simp) ?_
      try simp -dsimp
      try (first | exact fp_one (by decide) | refine fp_and (by decide) ?_)
      refine ⟨fun h => absurd h h0, fun _ => ⟨fun h9 => ?_, fun _ => ?_⟩⟩
      · refine ⟨fun h => absurd ⟨h9, by omega⟩ h1, fun _ => ?_⟩
        refine callM_of rfl (w7) (by simp) ?_
        try simp -dsimp
        try (first | exact fp_one (by decide) | refine fp_and (by decide) ?_)
      · refine callM_of rfl (w7) (by simp) ?_
        try simp -dsimp
        try (first | exact fp_one (by decide) | refine fp_and (by decide) ?_)
end Go.Proofs.YtgkhakhkebjbpaaEv
