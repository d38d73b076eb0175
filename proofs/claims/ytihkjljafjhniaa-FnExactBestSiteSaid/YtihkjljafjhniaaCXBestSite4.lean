/- What the code computes, and what it means: part 4 of the proof of FnExactBestSite. No condition of its own. -/
import Derived.Test.YtihkjljafjhniaaCXBestSite3
namespace Go.Proofs.YtihkjljafjhniaaEv
open Go Go.Proofs
set_option maxRecDepth 10000
def inL (a b c x y : Int) : Bool := decide (redX a b c x y = 0) && decide (y % c = 0)
theorem s_has1 (a b c x y : Int) (ha : 1 ≤ a ∧ a ≤ 64) (hb : 0 ≤ b ∧ b < a) (hc : 1 ≤ c ∧ c ≤ 64) (hx : -1000000000 ≤ x ∧ x ≤ 1000000000) (hy : -1000000000 ≤ y ∧ y ≤ 1000000000) : Sp Try.prog 209 [aL a b c, aV x y] (vb (inL a b c x y)) [] := by
  refine sp_of (m := no) mixed Try.func209 k209 ?_
  simp -dsimp [q]
  refine call_of (s_reduce _ _ _ _ _ ha hb hc hx hy) rfl (by simp) ?_
  try simp -dsimp
  try (first | exact fp_one (by decide) | refine fp_and (by decide) ?_)
  have e : inL a b c x y = true ↔ (redX a b c x y = 0 ∧ y % c = 0) := by simp [inL]
  rw [Bool.eq_iff_iff, cdec_true, e]
def keepL (a b c : Int) (m : M4) : Bool := inL a b c (m.1 * a) (m.2.2.1 * a) && inL a b c (m.1 * b + m.2.1 * c) (m.2.2.1 * b + m.2.2.2 * c)
theorem s_lm1 (a b c p q' r s : Int) (ha : 1 ≤ a ∧ a ≤ 64) (hb : 0 ≤ b ∧ b < a) (hc : 1 ≤ c ∧ c ≤ 64) (hm : (p.natAbs ≤ 1000 ∧ q'.natAbs ≤ 1000) ∧ r.natAbs ≤ 1000 ∧ s.natAbs ≤ 1000) : Sp Try.prog 208 [aM p q' r s, .fq [.int .i64 a, .int .i64 b, .int .i64 c], .fq [.int .i64 a, .int .i64 0], .fq [.int .i64 b, .int .i64 c]] (vb (!keepL a b c (p, q', r, s))) [] := by
  refine sp_of (m := no) mixed Try.func208 k208 ?_
  have h1 := mul_bd hm.1.1 (show a.natAbs ≤ 64 by omega)
  have h2 := mul_bd hm.2.1 (show a.natAbs ≤ 64 by omega)
  have h3 := mul_bd hm.1.1 (show b.natAbs ≤ 64 by omega)
  have h4 := mul_bd hm.1.2 (show c.natAbs ≤ 64 by omega)
  have h5 := mul_bd hm.2.1 (show b.natAbs ≤ 64 by omega)
  have h6 := mul_bd hm.2.2 (show c.natAbs ≤ 64 by omega)
  have w1 := s_has1 a b c (p * a) (r * a) ha hb hc (by omega) (by omega)
  have w2 := s_has1 a b c (p * b + q' * c) (r * b + s * c) ha hb hc (by omega) (by omega)
  simp -dsimp [q]
  refine call_of (s_apply p q' r s a 0 hm ⟨by omega, by omega⟩) rfl (by simp) ?_
  try simp -dsimp
  try (first | exact fp_one (by decide) | refine fp_and (by decide) ?_)
  unfold keepL
  simp only
  generalize inL a b c (p * a) (r * a) = t1 at *
  generalize inL a b c (p * b + q' * c) (r * b + s * c) = t2 at *
  refine call_of (w1) rfl (by simp) ?_
  try simp -dsimp
  try (first | exact fp_one (by decide) | refine fp_and (by decide) ?_)
  cases t1
  · simp -dsimp
  · simp -dsimp
    refine call_of (s_apply p q' r s b c hm ⟨by omega, by omega⟩) rfl (by simp) ?_
    try simp -dsimp
    try (first | exact fp_one (by decide) | refine fp_and (by decide) ?_)
    refine call_of (w2) rfl (by simp) ?_
    try simp -dsimp
    try (first | exact fp_one (by decide) | refine fp_and (by decide) ?_)
theorem pmL_small {f : Int} {n : Nat} (hn : n ≤ 81) {m : M4} (h : m ∈ pmL f n) : (m.1.natAbs ≤ 1 ∧ m.2.1.natAbs ≤ 1) ∧ m.2.2.1.natAbs ≤ 1 ∧ m.2.2.2.natAbs ≤ 1 := by
  unfold pmL at h
  obtain ⟨h1, _⟩ := List.mem_filter.1 h
  obtain ⟨k, hk, rfl⟩ := List.mem_map.1 h1
  have := List.mem_range.1 hk
  simp only [mat81]
  omega
theorem s_lm (f a b c : Int) (hf : 0 ≤ f ∧ f ≤ 1) (ha : 1 ≤ a ∧ a ≤ 64) (hb : 0 ≤ b ∧ b < a) (hc : 1 ≤ c ∧ c ≤ 64) : Sp Try.prog 165 [vi f, aL a b c] (.v (vms ((pmL f 81).filter fun m => keepL a b c m))) [] := by
  refine sp_of (m := fun f => f == 206) mixed Try.func165 k165 ?_
  have hlen := pmL_len f 81
  have hcl : ∀ v ∈ pmL f 81, Sp Try.prog 208 (aM4 v :: [.fq [.int .i64 a, .int .i64 b, .int .i64 c], .fq [.int .i64 a, .int .i64 0], .fq [.int .i64 b, .int .i64 c]]) (vb (!keepL a b c v)) [] := fun v hv => by
    have := pmL_small (Nat.le_refl _) hv
    exact s_lm1 a b c v.1 v.2.1 v.2.2.1 v.2.2.2 ha hb hc ⟨⟨by omega, by omega⟩, by omega, by omega⟩
  simp -dsimp [q]
  refine call_of (s_basis a b c) rfl (by simp) ?_
  try simp -dsimp
  try (first | exact fp_one (by decide) | refine fp_and (by decide) ?_)
  refine call_of (s_pm f hf) rfl (by simp) ?_
  try simp -dsimp
  try (first | exact fp_one (by decide) | refine fp_and (by decide) ?_)
  by_cases hany : (pmL f 81).any (fun v => !keepL a b c v) = true
  · have w := s_delM1 (pmL f 81) _ _ _ 61 (by omega) (by rfl) hcl hany
    simp only [Bool.not_not] at w
    refine callM_of rfl (w) (by simp) ?_
    try simp -dsimp
    try (first | exact fp_one (by decide) | refine fp_and (by decide) ?_)
  · have w := s_delM0 (pmL f 81) _ _ _ 61 (by omega) (by rfl) hcl (by simpa using hany)
    have e : ((pmL f 81).filter fun m => keepL a b c m) = pmL f 81 := by
      rw [List.filter_eq_self]
      intro m hm
      simp only [Bool.not_eq_true] at hany
      simpa using List.any_eq_false.1 hany m hm
    rw [e]
    refine callM_of rfl (w) (by simp) ?_
    try simp -dsimp
    try (first | exact fp_one (by decide) | refine fp_and (by decide) ?_)
end Go.Proofs.YtihkjljafjhniaaEv
namespace Go.Proofs.YtihkjljafjhniaaEv
open Go Go.Proofs
set_option maxRecDepth 10000
/-- Closed under adding multiples. -/
structure Sub (L : Int → Int → Prop) : Prop where
  z : L 0 0
  a : ∀ {x y u v : Int} (n : Int), L x y → L u v → L (x + n * u) (y + n * v)
theorem Sub.m {L : Int → Int → Prop} (s : Sub L) {x y : Int} (n : Int) (h : L x y) : L (n * x) (n * y) := by
  have := s.a n s.z h
  simpa using this
theorem Sub.s {L : Int → Int → Prop} (s : Sub L) {x y u v : Int} (n : Int) (h : L x y) (k : L u v) : L (x - n * u) (y - n * v) := by
  have := s.a (-n) h k
  rwa [Int.neg_mul, Int.neg_mul, ← Int.sub_eq_add_neg, ← Int.sub_eq_add_neg] at this
theorem sub_gcd {L : Int → Int → Prop} (s : Sub L) : ∀ (n : Nat) (a b : Int), b.natAbs ≤ n → L a 0 → L b 0 → L (Int.gcd a b : Int) 0
  | 0, a, b, hn, ha, hb => by
    have : b = 0 := by omega
    subst this
    rw [Int.gcd_zero_right]
    rcases Int.natAbs_eq a with h | h
    · rwa [← h]
    · have := s.m (-1) ha
      rw [show ((a.natAbs : Nat) : Int) = -1 * a by omega]
      simpa using this
  | n + 1, a, b, hn, ha, hb => by
    by_cases h0 : b = 0
    · exact sub_gcd s n a b (by omega) ha hb
    have h1 := tmod_abs a h0
    rw [← gcd_step]
    refine sub_gcd s n b _ (by omega) hb ?_
    have h2 := s.s (a.tdiv b) ha hb
    have h3 := Int.tmod_add_mul_tdiv a b
    rw [Int.mul_comm] at h3
    rw [show a.tmod b = a - a.tdiv b * b by omega]
    simpa using h2
theorem sub_of_gcd {L : Int → Int → Prop} (s : Sub L) {a b : Int} (h : L (Int.gcd a b : Int) 0) : L a 0 ∧ L b 0 := by
  obtain ⟨k, hk⟩ := Int.gcd_dvd_left (a := a) (b := b)
  obtain ⟨j, hj⟩ := Int.gcd_dvd_right (a := a) (b := b)
  constructor
  · have := s.m k h
    rw [Int.mul_comm, ← hk] at this
    simpa using this
  · have := s.m j h
    rw [Int.mul_comm, ← hj] at this
    simpa using this
theorem eu_row0 : ∀ (n : Nat) (h v : Int × Int), v.2.natAbs ≤ n → (eu n h v).2.2 = 0
  | 0, h, v, hn => by simp only [eu]; omega
  | n + 1, h, v, hn => by
    simp only [eu]
    by_cases hv : v.2 = 0
    · rw [if_pos hv]; exact hv
    · rw [if_neg hv]
      have := tmod_abs h.2 hv
      exact eu_row0 n _ _ (by simp only; omega)
theorem sub_eu {L : Int → Int → Prop} (s : Sub L) : ∀ (n : Nat) (h v : Int × Int), (L (eu n h v).1.1 (eu n h v).1.2 ∧ L (eu n h v).2.1 (eu n h v).2.2) ↔ (L h.1 h.2 ∧ L v.1 v.2)
  | 0, h, v => by simp [eu]
  | n + 1, h, v => by
    simp only [eu]
    by_cases hv : v.2 = 0
    · rw [if_pos hv]
    · rw [if_neg hv, sub_eu s n]
      have h3 := Int.tmod_add_mul_tdiv h.2 v.2
      rw [Int.mul_comm] at h3
      have e : h.2.tmod v.2 = h.2 - h.2.tdiv v.2 * v.2 := by omega
      simp only [e]
      constructor
      · rintro ⟨h1, h2⟩
        refine ⟨?_, h1⟩
        have := s.a (h.2.tdiv v.2) h2 h1
        rwa [Int.sub_add_cancel, Int.sub_add_cancel] at this
      · rintro ⟨h1, h2⟩
        exact ⟨h2, s.s _ h1 h2⟩
theorem sub_lstep {L : Int → Int → Prop} (s : Sub L) (t : Int × Int × Int) (v : Int × Int) : (L (lstep t v).1 0 ∧ L (lstep t v).2.1 (lstep t v).2.2) ↔ ((L t.1 0 ∧ L t.2.1 t.2.2) ∧ L v.1 v.2) := by
  have e1 := sub_eu s v.2.natAbs t.2 v
  have e2 := eu_row0 v.2.natAbs t.2 v (Nat.le_refl _)
  rw [e2] at e1
  simp only [lstep]
  constructor
  · rintro ⟨h1, h2⟩
    obtain ⟨h3, h4⟩ := sub_of_gcd s h1
    have := e1.1 ⟨h2, h4⟩
    exact ⟨⟨h3, this.1⟩, this.2⟩
  · rintro ⟨⟨h1, h2⟩, h3⟩
    have := e1.2 ⟨h2, h3⟩
    exact ⟨sub_gcd s _ _ _ (Nat.le_refl _) h1 this.2, this.1⟩
theorem sub_lstepS {L : Int → Int → Prop} (s : Sub L) (t : Int × Int × Int) (v : Int × Int) : (L (lstepS t v).1 0 ∧ L (lstepS t v).2.1 (lstepS t v).2.2) ↔ ((L t.1 0 ∧ L t.2.1 t.2.2) ∧ L v.1 v.2) := by
  rw [← sub_lstep s]
  simp only [lstep, lstepS]
  generalize (Int.gcd t.1 (eu v.2.natAbs t.2 v).2.1 : Int) = g
  generalize (eu v.2.natAbs t.2 v).1 = h
  refine and_congr_right fun hg => ?_
  split
  · have e := Int.emod_add_mul_ediv h.1 g
    rw [Int.mul_comm] at e
    constructor
    · intro h1
      have := s.a (h.1 / g) h1 hg
      rw [e] at this
      simpa using this
    · intro h1
      have := s.s (h.1 / g) h1 hg
      rw [show h.1 % g = h.1 - h.1 / g * g by omega]
      simpa using this
  · exact Iff.rfl
theorem sub_foldl {L : Int → Int → Prop} {st : Int × Int × Int → Int × Int → Int × Int × Int} (hst : ∀ t v, (L (st t v).1 0 ∧ L (st t v).2.1 (st t v).2.2) ↔ ((L t.1 0 ∧ L t.2.1 t.2.2) ∧ L v.1 v.2)) : ∀ (l : List (Int × Int)) (t : Int × Int × Int), (L (l.foldl st t).1 0 ∧ L (l.foldl st t).2.1 (l.foldl st t).2.2) ↔ ((L t.1 0 ∧ L t.2.1 t.2.2) ∧ ∀ v ∈ l, L v.1 v.2)
  | [], t => by simp
  | v :: l, t => by
    rw [List.foldl_cons, sub_foldl hst l, hst]
    simp only [List.mem_cons, forall_eq_or_imp, and_assoc]
theorem sub_lfold {L : Int → Int → Prop} (s : Sub L) (l : List (Int × Int)) : (L (lfold l).1 0 ∧ L (lfold l).2.1 (lfold l).2.2) ↔ ∀ v ∈ l, L v.1 v.2 := by
  rw [lfold, sub_foldl (sub_lstep s)]
  simp [s.z]
theorem sub_lfoldS {L : Int → Int → Prop} (s : Sub L) (l : List (Int × Int)) : (L (lfoldS l).1 0 ∧ L (lfoldS l).2.1 (lfoldS l).2.2) ↔ ∀ v ∈ l, L v.1 v.2 := by
  rw [lfoldS, sub_foldl (sub_lstepS s)]
  simp [s.z]
theorem sub_lfin {L : Int → Int → Prop} (s : Sub L) (t : Int × Int × Int) : (L (lfin t).1 0 ∧ L (lfin t).2.1 (lfin t).2.2) ↔ (L t.1 0 ∧ L t.2.1 t.2.2) := by
  simp only [lfin]
  refine and_congr_right fun hg => ?_
  have key : ∀ x y : Int, L (x % t.1) y ↔ L x y := fun x y => by
    have e := Int.emod_add_mul_ediv x t.1
    rw [Int.mul_comm] at e
    constructor
    · intro h1
      have := s.a (x / t.1) h1 hg
      rw [e] at this
      simpa using this
    · intro h1
      have := s.s (x / t.1) h1 hg
      rw [show x % t.1 = x - x / t.1 * t.1 by omega]
      simpa using this
  split
  · rw [key]
    constructor
    · intro h
      have := s.m (-1) h
      simpa using this
    · intro h
      have := s.m (-1) h
      simpa using this
  · rw [key]
def spn (a b c x y : Int) : Prop := ∃ i j : Int, x = i * a + j * b ∧ y = j * c
theorem spn_sub (a b c : Int) : Sub (spn a b c) where
  z := ⟨0, 0, by simp, by simp⟩
  a := by
    rintro x y u v n ⟨i, j, rfl, rfl⟩ ⟨k, l, rfl, rfl⟩
    refine ⟨i + n * k, j + n * l, ?_, ?_⟩
    · simp only [Int.add_mul, Int.mul_add, Int.mul_assoc]; omega
    · simp only [Int.add_mul, Int.mul_assoc]
theorem spn_l (a b c : Int) : spn a b c a 0 := ⟨1, 0, by simp, by simp⟩
theorem spn_r (a b c : Int) : spn a b c b c := ⟨0, 1, by simp, by simp⟩
theorem spn_det {a b c x y u v : Int} (h1 : spn a b c x y) (h2 : spn a b c u v) : a * c ∣ x * v - y * u := by
  obtain ⟨i, j, rfl, rfl⟩ := h1
  obtain ⟨k, l, rfl, rfl⟩ := h2
  refine ⟨i * l - j * k, ?_⟩
  simp only [Int.mul_sub, Int.add_mul, Int.mul_add]
  have e1 : i * a * (l * c) = a * c * (i * l) := by ac_rfl
  have e2 : j * b * (l * c) = j * c * (l * b) := by ac_rfl
  have e3 : j * c * (k * a) = a * c * (j * k) := by ac_rfl
  rw [e1, e2, e3]
  omega
theorem spn_uniq {a b c A B C : Int} (ha : 0 < a) (hb : 0 ≤ b ∧ b < a) (hc : 0 < c) (hA : 0 < A) (hB : 0 ≤ B ∧ B < A) (hC : 0 < C) (h1 : spn A B C a 0) (h2 : spn A B C b c) (h3 : spn a b c A 0) (h4 : spn a b c B C) : (a, b, c) = (A, B, C) := by
  obtain ⟨i1, j1, e1, f1⟩ := h1
  obtain ⟨i2, j2, e2, f2⟩ := h2
  obtain ⟨i3, j3, e3, f3⟩ := h3
  obtain ⟨i4, j4, e4, f4⟩ := h4
  have j1z : j1 = 0 := by
    rcases Int.mul_eq_zero.1 f1.symm with h | h <;> omega
  have j3z : j3 = 0 := by
    rcases Int.mul_eq_zero.1 f3.symm with h | h <;> omega
  subst j1z j3z
  simp only [Int.zero_mul, Int.add_zero] at e1 e3
  have eA : A = a := Int.le_antisymm (Int.le_of_dvd ha ⟨i1, by rw [Int.mul_comm]; exact e1⟩) (Int.le_of_dvd hA ⟨i3, by rw [Int.mul_comm]; exact e3⟩)
  have eC : C = c := Int.le_antisymm (Int.le_of_dvd hc ⟨j2, by rw [Int.mul_comm]; exact f2⟩) (Int.le_of_dvd hC ⟨j4, by rw [Int.mul_comm]; exact f4⟩)
  subst eA eC
  have : j2 = 1 := by
    have : (j2 - 1) * C = 0 := by rw [Int.sub_mul, Int.one_mul]; omega
    rcases Int.mul_eq_zero.1 this with h | h <;> omega
  subst this
  rw [Int.one_mul] at e2
  have : b % A = B % A := by rw [e2, Int.add_comm, Int.add_mul_emod_self_right]
  rw [Int.emod_eq_of_lt hb.1 hb.2, Int.emod_eq_of_lt hB.1 hB.2] at this
  rw [this]
end Go.Proofs.YtihkjljafjhniaaEv
namespace Go.Proofs.YtihkjljafjhniaaEv
open Go Go.Proofs
set_option maxRecDepth 10000
theorem inL_iff {a b c x y : Int} : inL a b c x y = true ↔ (x - y / c * b) % a = 0 ∧ y % c = 0 := by
  unfold inL
  rw [Bool.and_eq_true, decide_eq_true_iff, decide_eq_true_iff]
  exact Iff.rfl
theorem inL_spn {a b c x y : Int} (hc : 1 ≤ c) : inL a b c x y = true ↔ spn a b c x y := by
  rw [inL_iff]
  constructor
  · rintro ⟨h1, h2⟩
    have e1 := Int.emod_add_mul_ediv (x - y / c * b) a
    have e2 := Int.emod_add_mul_ediv y c
    refine ⟨(x - y / c * b) / a, y / c, ?_, ?_⟩
    · rw [h1, Int.mul_comm] at e1; omega
    · rw [h2, Int.mul_comm] at e2; omega
  · rintro ⟨i, j, rfl, rfl⟩
    rw [Int.mul_ediv_cancel _ (show c ≠ 0 by omega)]
    refine ⟨?_, Int.mul_emod_left _ _⟩
    rw [Int.add_sub_cancel]
    exact Int.mul_emod_left _ _
theorem lfS_one (x y : Int) : lfoldS [(x, y)] = if y = 0 then ((x.natAbs : Int), 0, 0) else (0, x, y) := by
  simp only [lfoldS, List.foldl_cons, List.foldl_nil, lstepS]
  by_cases hy : y = 0
  · subst hy
    simp [eu]
  · have h := eu_step (h := (0, 0)) (v := (x, y)) hy
    simp only at h
    rw [if_neg hy, h]
    simp [eu]
theorem lfS_g (l : List (Int × Int)) (v : Int × Int) : 0 ≤ (lfoldS (l ++ [v])).1 ∧ (0 < (lfoldS (l ++ [v])).1 → 0 ≤ (lfoldS (l ++ [v])).2.1 ∧ (lfoldS (l ++ [v])).2.1 < (lfoldS (l ++ [v])).1) := by
  rw [lfoldS_snoc]
  simp only [lstepS]
  refine ⟨by omega, fun h => ?_⟩
  rw [if_pos h]
  exact ⟨Int.emod_nonneg _ (by omega), Int.emod_lt_of_pos _ h⟩
structure Two (x y u w : Int) : Prop where
  h : 0 < (lfoldS [(x, y), (u, w)]).1
  r : 0 ≤ (lfoldS [(x, y), (u, w)]).2.1 ∧ (lfoldS [(x, y), (u, w)]).2.1 < (lfoldS [(x, y), (u, w)]).1
  k : (lfoldS [(x, y), (u, w)]).2.2 ≠ 0
  d : (lfoldS [(x, y), (u, w)]).1 * (lfoldS [(x, y), (u, w)]).2.2 ∣ x * w - y * u
  s : lsmallS [(x, y), (u, w)]
theorem dvd_bd {a b : Int} {D : Nat} (h : a ∣ b) (h0 : b ≠ 0) (hb : b.natAbs ≤ D) : a.natAbs ≤ D := by
  have := Int.natAbs_dvd_natAbs.2 h
  exact Nat.le_trans (Nat.le_of_dvd (by omega) this) hb
theorem takeTwo {α : Type} (x y : α) (P : List α → Prop) (h0 : P []) (h1 : P [x]) (h2 : P [x, y]) : ∀ k, P (([x, y] : List α).take k)
  | 0 => h0
  | 1 => h1
  | k + 2 => by simpa using h2
theorem two {x y u w : Int} (hx : x.natAbs ≤ 1000) (hy : y.natAbs ≤ 1000) (hu : u.natAbs ≤ 1000) (hw : w.natAbs ≤ 1000) (hd : x * w - y * u ≠ 0) (hD : (x * w - y * u).natAbs ≤ 1000000) : Two x y u w := by
  have g := lfS_g [(x, y)] (u, w)
  have sp := (sub_lfoldS (spn_sub (lfoldS [(x, y), (u, w)]).1 (lfoldS [(x, y), (u, w)]).2.1 (lfoldS [(x, y), (u, w)]).2.2) [(x, y), (u, w)]).1 ⟨spn_l _ _ _, spn_r _ _ _⟩
  have s1 := sp (x, y) (by simp)
  have s2 := sp (u, w) (by simp)
  have dv := spn_det s1 s2
  have e1 := lfS_one x y
  rw [List.singleton_append] at g
  have e2 : smallV 1000000 (lfoldS [(x, y)]).2 ∧ (lfoldS [(x, y)]).1.natAbs ≤ 1000000 := by
    rw [e1]
    split
    · exact ⟨⟨by simp, by simp⟩, by simp only; omega⟩
    · exact ⟨⟨by simp only; omega, by simp only; omega⟩, by simp⟩
  have hv : ∀ v ∈ ([(x, y), (u, w)] : List (Int × Int)), smallV 1000000 v := by
    intro v hv
    simp only [List.mem_cons, List.not_mem_nil, or_false] at hv
    rcases hv with rfl | rfl <;> exact ⟨by simp only; omega, by simp only; omega⟩
  have gz : (lfoldS [(x, y), (u, w)]).1 ≠ 0 := fun e => by rw [e, Int.zero_mul, Int.zero_dvd] at dv; exact hd dv
  have kz : (lfoldS [(x, y), (u, w)]).2.2 ≠ 0 := fun e => by rw [e, Int.mul_zero, Int.zero_dvd] at dv; exact hd dv
  have d1 := dvd_bd (Int.dvd_trans (Int.dvd_mul_right _ _) dv) hd hD
  have d2 := dvd_bd (Int.dvd_trans (Int.dvd_mul_left _ _) dv) hd hD
  have gp : 0 < (lfoldS [(x, y), (u, w)]).1 := by omega
  have gr := g.2 gp
  refine ⟨gp, gr, kz, dv, hv, takeTwo _ _ (fun l => smallV 1000000 (lfoldS l).2 ∧ (lfoldS l).1.natAbs ≤ 1000000) ?_ e2 ?_⟩
  · exact ⟨⟨by decide, by decide⟩, by decide⟩
  · exact ⟨⟨by omega, d2⟩, d1⟩
theorem image_eq {a b c x y u w : Int} (ha : 1 ≤ a) (hb : 0 ≤ b ∧ b < a) (hc : 1 ≤ c) (t : Two x y u w) (hd : x * w - y * u = a * c ∨ x * w - y * u = -(a * c)) : lfin (lfoldS [(x, y), (u, w)]) = (a, b, c) ↔ (spn a b c x y ∧ spn a b c u w) := by
  have e := (sub_lfin (spn_sub a b c) (lfoldS [(x, y), (u, w)])).trans (sub_lfoldS (spn_sub a b c) [(x, y), (u, w)])
  simp only [List.mem_cons, List.not_mem_nil, or_false, forall_eq_or_imp, forall_eq] at e
  rw [← e]
  obtain ⟨t1, t2, t3, t4, _⟩ := t
  have f1 : (lfin (lfoldS [(x, y), (u, w)])).1 = (lfoldS [(x, y), (u, w)]).1 := rfl
  have f2 : 0 ≤ (lfin (lfoldS [(x, y), (u, w)])).2.1 ∧ (lfin (lfoldS [(x, y), (u, w)])).2.1 < (lfoldS [(x, y), (u, w)]).1 := ⟨Int.emod_nonneg _ (by omega), Int.emod_lt_of_pos _ t1⟩
  have f3 : 0 < (lfin (lfoldS [(x, y), (u, w)])).2.2 := by
    simp only [lfin]
    split <;> omega
  have f4 : (lfin (lfoldS [(x, y), (u, w)])).1 * (lfin (lfoldS [(x, y), (u, w)])).2.2 ∣ a * c := by
    have : (lfoldS [(x, y), (u, w)]).1 * (lfoldS [(x, y), (u, w)]).2.2 ∣ a * c := by
      rcases hd with h | h
      · rwa [h] at t4
      · rw [h] at t4; exact Int.dvd_neg.1 t4
    simp only [lfin]
    split
    · rw [Int.mul_neg]; exact Int.neg_dvd.2 this
    · exact this
  rw [← f1] at f2 t1
  generalize lfin (lfoldS [(x, y), (u, w)]) = r at *
  obtain ⟨A, B, C⟩ := r
  simp only at *
  constructor
  · intro h
    cases h
    exact ⟨spn_l _ _ _, spn_r _ _ _⟩
  · rintro ⟨⟨i3, j3, e3, g3⟩, ⟨i4, j4, e4, g4⟩⟩
    have j3z : j3 = 0 := by rcases Int.mul_eq_zero.1 g3.symm with h | h <;> omega
    subst j3z
    simp only [Int.zero_mul, Int.add_zero] at e3
    obtain ⟨n, hn⟩ := f4
    have hp : 0 < a * c := Int.mul_pos (by omega) (by omega)
    have h1 : a * c * (i3 * j4 * n - 1) = 0 := by subst e3 g4; grind
    have h2 : i3 * j4 * n = 1 := by rcases Int.mul_eq_zero.1 h1 with h | h <;> omega
    have i3p : 0 < i3 := by
      rcases Int.lt_trichotomy i3 0 with h | h | h
      · have := Int.mul_neg_of_neg_of_pos h (show 0 < a by omega); omega
      · subst h; simp at e3; omega
      · exact h
    have j4p : 0 < j4 := by
      rcases Int.lt_trichotomy j4 0 with h | h | h
      · have := Int.mul_neg_of_neg_of_pos h (show 0 < c by omega); omega
      · subst h; simp at g4; omega
      · exact h
    have q1 : i3 = 1 := by
      have := Int.le_of_dvd (by decide) (show i3 ∣ 1 from ⟨j4 * n, by rw [← h2, Int.mul_assoc]⟩)
      omega
    have q2 : j4 = 1 := by
      have := Int.le_of_dvd (by decide) (show j4 ∣ 1 from ⟨i3 * n, by rw [← h2]; ac_rfl⟩)
      omega
    subst q1 q2
    simp only [Int.one_mul] at e3 e4 g4
    subst e3 g4
    have : B % A = b % A := by rw [e4, Int.add_comm, Int.add_mul_emod_self_right]
    rw [Int.emod_eq_of_lt hb.1 hb.2, Int.emod_eq_of_lt f2.1 f2.2] at this
    rw [this]
/-! point matrices -/
theorem sq_le {x : Int} {n : Nat} (h : x * x ≤ n) : x.natAbs ≤ n := by
  have h1 : (x * x).natAbs = x.natAbs * x.natAbs := Int.natAbs_mul _ _
  have h0 : 0 ≤ x * x := by rcases Int.le_total 0 x with h | h; exact Int.mul_nonneg h h; exact Int.mul_nonneg_of_nonpos_of_nonpos h h
  rcases Nat.eq_zero_or_pos x.natAbs with h2 | h2
  · omega
  · have := Nat.le_mul_of_pos_right x.natAbs h2
    omega
theorem norm_one {f x y : Int} (hf : 0 ≤ f ∧ f ≤ 1) (h : normF f x y = 1) : x.natAbs ≤ 1 ∧ y.natAbs ≤ 1 := by
  unfold normF at h
  have hsq : ∀ z : Int, 0 ≤ z * z := fun z => by rcases Int.le_total 0 z with h | h; exact Int.mul_nonneg h h; exact Int.mul_nonneg_of_nonpos_of_nonpos h h
  rcases (by omega : f = 0 ∨ f = 1) with rfl | rfl
  · have := hsq x; have := hsq y
    rw [Int.zero_mul, Int.zero_mul] at h
    exact ⟨sq_le (by omega), sq_le (by omega)⟩
  · rw [Int.one_mul] at h
    have e1 := hsq (2 * x + y)
    have e2 := hsq (x + 2 * y)
    have e3 : (2 * x + y) * (2 * x + y) + 3 * (y * y) = 4 := by grind
    have e4 : (x + 2 * y) * (x + 2 * y) + 3 * (x * x) = 4 := by grind
    exact ⟨sq_le (by omega), sq_le (by omega)⟩
theorem one_cases {x : Int} (h : x.natAbs ≤ 1) : x = -1 ∨ x = 0 ∨ x = 1 := by omega
theorem pmL_mem {f : Int} (hf : 0 ≤ f ∧ f ≤ 1) (a b c d : Int) : (a, b, c, d) ∈ pmL f 81 ↔ pmOk f (a, b, c, d) = true := by
  constructor
  · intro h
    unfold pmL at h
    exact (List.mem_filter.1 h).2
  · intro h
    unfold pmL
    refine List.mem_filter.2 ⟨?_, h⟩
    simp only [pmOk, Bool.and_eq_true, decide_eq_true_eq] at h
    obtain ⟨h1, h2⟩ := norm_one hf h.1.1
    obtain ⟨h3, h4⟩ := norm_one hf h.1.2
    refine List.mem_map.2 ⟨((a + 1) * 27 + (b + 1) * 9 + (c + 1) * 3 + (d + 1)).toNat, List.mem_range.2 (by omega), ?_⟩
    simp only [mat81, Prod.mk.injEq]
    omega
theorem pm_facts {f a b c d : Int} (hf : 0 ≤ f ∧ f ≤ 1) (h : pmOk f (a, b, c, d) = true) : (a.natAbs ≤ 1 ∧ b.natAbs ≤ 1) ∧ (c.natAbs ≤ 1 ∧ d.natAbs ≤ 1) ∧ (a * d - b * c = 1 ∨ a * d - b * c = -1) := by
  have h' := h
  simp only [pmOk, Bool.and_eq_true, decide_eq_true_eq] at h
  obtain ⟨h1, h2⟩ := norm_one hf h.1.1
  obtain ⟨h3, h4⟩ := norm_one hf h.1.2
  refine ⟨⟨h1, h3⟩, ⟨h2, h4⟩, ?_⟩
  rcases (by omega : f = 0 ∨ f = 1) with rfl | rfl <;> rcases one_cases h1 with rfl | rfl | rfl <;> rcases one_cases h2 with rfl | rfl | rfl <;> rcases one_cases h3 with rfl | rfl | rfl <;> rcases one_cases h4 with rfl | rfl | rfl <;> first | decide | (exfalso; revert h'; decide)
theorem pm_mat {f a b c d : Int} (hf : 0 ≤ f ∧ f ≤ 1) (h : pmOk f (a, b, c, d) = true) : matOk a b c d = true := by
  obtain ⟨⟨h1, h2⟩, ⟨h3, h4⟩, h5⟩ := pm_facts hf h
  have e1 : okV a b = true := okV_spec.2 (by omega)
  have e2 : okV c d = true := okV_spec.2 (by omega)
  simp only [matOk, e1, e2, Bool.true_and, Bool.or_eq_true, decide_eq_true_eq]
  exact h5
end Go.Proofs.YtihkjljafjhniaaEv
namespace Go.Proofs.YtihkjljafjhniaaEv
open Go Go.Proofs
set_option maxRecDepth 10000
theorem s_idxM (l : List M4) (m : M4) (h : l.length ≤ 1048576) : Sp Try.prog 213 [.v (vms l), aM4 m] (vi (if m ∈ l then l.idxOf m else -1)) [] := by
  refine sp_of (m := no) mixed Try.func213 k213 ?_
  simp -dsimp [q, -Prod.forall, -Prod.exists]
  refine awp_it (true :: false :: false :: true :: false :: false :: false :: true :: true :: []) (fun i : Nat => [(8, vi i)]) (fun i => []) (fun i => i ≤ l.length ∧ ∀ x ∈ l.take i, x ≠ m) (fun i => l.length - i) 0 ?_
  intro s0 e
  simp -dsimp at e
  subst e
  refine ⟨?_, ?_⟩
  · simp
  rintro i ⟨hi, hi2⟩
  simp -dsimp [-Prod.forall, -Prod.exists]
  refine ⟨fun h1 => ⟨h1, fun x ha => ?_⟩, fun h1 => ?_⟩
  · obtain ⟨_, hal⟩ := List.getElem?_eq_some_iff.1 ha
    refine ⟨fun e1 e2 e3 e4 => ?_, fun hn => ⟨i + 1, by rw [w64 (by omega) (by omega)]; simp, ⟨by omega, fun x' hx => ?_⟩, by omega⟩⟩
    · have e : x = m := Prod.ext e1.symm (Prod.ext e2.symm (Prod.ext e3.symm e4.symm))
      rw [if_pos (e ▸ List.mem_of_getElem? ha), List.idxOf, (List.findIdx_eq h1).2 ⟨by rw [hal, e]; simp, fun j hj => by
        have := hi2 l[j] (List.mem_iff_getElem.2 ⟨j, by simp; omega, by simp⟩)
        simpa using this⟩]
    · rw [List.take_add_one, ha] at hx
      rcases List.mem_append.1 hx with hx | hx
      · exact hi2 _ hx
      · simp only [Option.toList_some, List.mem_singleton] at hx
        rw [hx]
        rintro rfl
        exact hn rfl rfl rfl rfl
  · rw [List.take_of_length_le h1] at hi2
    exact fun hm => hi2 m hm rfl
theorem s_contM (l : List M4) (m : M4) (h : l.length ≤ 1048576) : Sp Try.prog 169 [.v (vms l), aM4 m] (vb (decide (m ∈ l))) [] := by
  refine sp_of (m := no) mixed Try.func169 k169 ?_
  have w := s_idxM l m h
  simp -dsimp [q]
  refine call_of (w) rfl (by simp) ?_
  try simp -dsimp
  try (first | exact fp_one (by decide) | refine fp_and (by decide) ?_)
  by_cases hm : m ∈ l
  · rw [if_pos hm]
    simp [hm]
  · rw [if_neg hm]
    simp [hm]
def suit (f a b c p q' r s t u : Int) : Bool := pmOk f (p, q', r, s) && keepL a b c (p, q', r, s) && okV t u
theorem s_suit (f a b c p q' r s t u : Int) (hf : 0 ≤ f ∧ f ≤ 1) (h : okL a b c = true) : Sp Try.prog 103 [vi f, aL a b c, aG p q' r s t u] (vb (suit f a b c p q' r s t u)) [] := by
  obtain ⟨ha, hc, hb, _⟩ := okL_spec.1 h
  refine sp_of (m := no) mixed Try.func103 k103 ?_
  have w1 := s_isVec t u
  have hlen : ((pmL f 81).filter fun m => keepL a b c m).length ≤ 81 := Nat.le_trans (List.length_filter_le _ _) (pmL_len f 81)
  have w2 := s_contM ((pmL f 81).filter fun m => keepL a b c m) (p, q', r, s) (by omega)
  have e : decide ((p, q', r, s) ∈ (pmL f 81).filter fun m => keepL a b c m) = (pmOk f (p, q', r, s) && keepL a b c (p, q', r, s)) := by
    rw [Bool.eq_iff_iff, decide_eq_true_iff, List.mem_filter, pmL_mem hf, Bool.and_eq_true]
  rw [e] at w2
  unfold suit
  simp -dsimp [q]
  cases hv : okV t u
  · rw [hv] at w1
    refine call_of (w1) rfl (by simp) ?_
    try simp -dsimp
    try (first | exact fp_one (by decide) | refine fp_and (by decide) ?_)
  · rw [hv] at w1
    refine call_of (w1) rfl (by simp) ?_
    try simp -dsimp
    try (first | exact fp_one (by decide) | refine fp_and (by decide) ?_)
    refine call_of (s_lm f a b c hf ha hb hc) rfl (by simp) ?_
    try simp -dsimp
    try (first | exact fp_one (by decide) | refine fp_and (by decide) ?_)
    refine call_of (w2) rfl (by simp) ?_
    try simp -dsimp
    try (first | exact fp_one (by decide) | refine fp_and (by decide) ?_)
theorem s_simage (a b c p q' r s : Int) (h : okL a b c = true) (hm : (p.natAbs ≤ 1 ∧ q'.natAbs ≤ 1) ∧ (r.natAbs ≤ 1 ∧ s.natAbs ≤ 1) ∧ (p * s - q' * r = 1 ∨ p * s - q' * r = -1)) : ∃ A B C, ((A, B, C) = (a, b, c) ↔ keepL a b c (p, q', r, s) = true) ∧ Sp Try.prog 144 [aM p q' r s, aL a b c] (aL A B C) [] := by
  obtain ⟨ha, hc, hb, hac⟩ := okL_spec.1 h
  obtain ⟨⟨m1, m2⟩, ⟨m3, m4⟩, hd⟩ := hm
  have h1 := mul_bd m1 (show a.natAbs ≤ 64 by omega)
  have h2 := mul_bd m3 (show a.natAbs ≤ 64 by omega)
  have h3 := mul_bd m1 (show b.natAbs ≤ 64 by omega)
  have h4 := mul_bd m2 (show c.natAbs ≤ 64 by omega)
  have h5 := mul_bd m3 (show b.natAbs ≤ 64 by omega)
  have h6 := mul_bd m4 (show c.natAbs ≤ 64 by omega)
  have hdet : p * a * (r * b + s * c) - r * a * (p * b + q' * c) = a * c ∨ p * a * (r * b + s * c) - r * a * (p * b + q' * c) = -(a * c) := by
    have e : p * a * (r * b + s * c) - r * a * (p * b + q' * c) = a * c * (p * s - q' * r) := by grind
    rw [e]
    rcases hd with e | e
    · left; rw [e, Int.mul_one]
    · right; rw [e, Int.mul_neg, Int.mul_one]
  have hp : 0 < a * c := Int.mul_pos (by omega) (by omega)
  have t := two (x := p * a) (y := r * a) (u := p * b + q' * c) (w := r * b + s * c) (by omega) (by omega) (by omega) (by omega) (by omega) (by omega)
  have w := s_hermite [(p * a, r * a), (p * b + q' * c, r * b + s * c)] (by simp) t.s t.h
  have e := image_eq (a := a) (b := b) (c := c) (by omega) hb (by omega) t hdet
  rw [← inL_spn (by omega), ← inL_spn (by omega), ← Bool.and_eq_true] at e
  generalize lfin (lfoldS [(p * a, r * a), (p * b + q' * c, r * b + s * c)]) = R at w e
  obtain ⟨A, B, C⟩ := R
  refine ⟨A, B, C, e, ?_⟩
  refine sp_of (m := no) mixed Try.func144 k144 ?_
  simp -dsimp [q]
  refine call_of ((s_sbasis a b c : Sp Try.prog 195 [aL a b c] (.v (.sl 2 [.ag [.int .i64 a, .int .i64 0], .ag [.int .i64 b, .int .i64 c]])) [])) rfl (by simp) ?_
  try simp -dsimp
  try (first | exact fp_one (by decide) | refine fp_and (by decide) ?_)
  refine call_of (s_sapply p q' r s a 0 ⟨⟨by omega, by omega⟩, by omega, by omega⟩ ⟨by omega, by omega⟩) rfl (by simp) ?_
  try simp -dsimp
  try (first | exact fp_one (by decide) | refine fp_and (by decide) ?_)
  refine call_of (s_sapply p q' r s b c ⟨⟨by omega, by omega⟩, by omega, by omega⟩ ⟨by omega, by omega⟩) rfl (by simp) ?_
  try simp -dsimp
  try (first | exact fp_one (by decide) | refine fp_and (by decide) ?_)
  refine call_of (w) rfl (by simp) ?_
  try simp -dsimp
  try (first | exact fp_one (by decide) | refine fp_and (by decide) ?_)
theorem s_ssuit' (f a b c p q' r s t u : Int) (T : Bool) (hT : T = (decide (0 ≤ f ∧ f ≤ 1) && okL a b c && suit f a b c p q' r s t u)) : Sp Try.prog 99 [vi f, aL a b c, aG p q' r s t u] (vb T) [] := by
  refine sp_of (m := no) mixed Try.func99 k99 ?_
  have w1 := s_scode f a b c
  have w2 := s_sisPM f p q' r s
  have w4 := s_sisVec t u
  simp -dsimp [q]
  by_cases h1 : 0 ≤ f ∧ f ≤ 1 ∧ okL a b c = true
  case neg =>
    rw [if_neg h1] at w1
    have e : T = false := by
      rw [hT, Bool.eq_false_iff]
      intro e
      rw [Bool.and_eq_true, Bool.and_eq_true, decide_eq_true_iff] at e
      exact h1 ⟨e.1.1.1, e.1.1.2, e.1.2⟩
    subst e
    refine call_of (w1) rfl (by simp) ?_
    try simp -dsimp
    try (first | exact fp_one (by decide) | refine fp_and (by decide) ?_)
  rw [if_pos h1] at w1
  have hf : 0 ≤ f ∧ f ≤ 1 := ⟨h1.1, h1.2.1⟩
  rw [decide_eq_true hf, h1.2.2] at hT
  rw [decide_eq_true hf] at w2
  unfold suit at hT
  by_cases h2 : pmOk f (p, q', r, s) = true
  case neg =>
    simp only [Bool.not_eq_true] at h2
    rw [h2, Bool.and_false] at w2
    have e : T = false := by rw [hT, h2]; rfl
    subst e
    refine call_of (w1) rfl (by simp) ?_
    try simp -dsimp
    try (first | exact fp_one (by decide) | refine fp_and (by decide) ?_)
    refine call_of (w2) rfl (by simp) ?_
    try simp -dsimp
    try (first | exact fp_one (by decide) | refine fp_and (by decide) ?_)
  rw [pm_mat hf h2, h2] at w2
  obtain ⟨A, B, C, hk, w3⟩ := s_simage a b c p q' r s h1.2.2 (pm_facts hf h2)
  rw [h2] at hT
  simp only [Bool.true_and] at hT
  simp only [Prod.mk.injEq] at hk
  refine call_of (w1) rfl (by simp) ?_
  try simp -dsimp
  try (first | exact fp_one (by decide) | refine fp_and (by decide) ?_)
  refine call_of (w2) rfl (by simp) ?_
  try simp -dsimp
  try (first | exact fp_one (by decide) | refine fp_and (by decide) ?_)
  refine call_of (w3) rfl (by simp) ?_
  try simp -dsimp
  try (first | exact fp_one (by decide) | refine fp_and (by decide) ?_)
  by_cases h3 : A = a ∧ B = b ∧ C = c
  case neg =>
    have e : T = false := by
      rw [hT, Bool.eq_false_iff]
      intro e
      rw [Bool.and_eq_true] at e
      exact h3 (hk.2 e.1)
    subst e
    refine ⟨fun e1 e2 e3 => absurd ⟨e1, e2, e3⟩ h3, fun _ => ?_⟩
    try simp -dsimp
  have e : T = okV t u := by rw [hT, hk.1 h3, Bool.true_and]
  subst e
  refine ⟨fun _ _ _ => ?_, fun h => absurd h3.2.2 (h h3.1 h3.2.1)⟩
  refine call_of (w4) rfl (by simp) ?_
  try simp -dsimp
  try (first | exact fp_one (by decide) | refine fp_and (by decide) ?_)
theorem s_ssuit (f a b c p q' r s t u : Int) : Sp Try.prog 99 [vi f, aL a b c, aG p q' r s t u] (vb (decide (0 ≤ f ∧ f ≤ 1) && okL a b c && suit f a b c p q' r s t u)) [] := s_ssuit' f a b c p q' r s t u _ rfl
end Go.Proofs.YtihkjljafjhniaaEv
namespace Go.Proofs.YtihkjljafjhniaaEv
open Go Go.Proofs
set_option maxRecDepth 10000
theorem s_szP (f a b c : Int) (l : List Int) (n : Int) (hc : l.length ≤ maxLen) (hn : 0 ≤ n ∧ n ≤ 1048576) : Sp Try.prog 14 [aP f a b c l, vi n] (vi (if n < l.length then -1 else n - l.length)) [] := by
  refine sp_of (m := no) mixed Try.func14 k14 ?_
  simp -dsimp [q]
  refine call_of (s_sz l n hc hn) rfl (by simp) ?_
  try simp -dsimp
  try (first | exact fp_one (by decide) | refine fp_and (by decide) ?_)
  split <;> omega
theorem s_toL (a b c : Int) : Sp Try.prog 33 [aL a b c] (aL a b c) [] := by
  refine sp_of (m := no) mixed Try.func33 k33 ?_
  simp -dsimp [q]
theorem s_toP (f a b c : Int) (l : List Int) (hc : l.length ≤ 1048576) : Sp Try.prog 16 [aP f a b c l] (oP f a b c 0) [.row 0 2 (is l)] := by
  refine sp_of (m := no) mixed Try.func16 k16 ?_
  simp -dsimp [q]
  refine call_of (s_toL a b c) rfl (by simp) ?_
  try simp -dsimp
  try (first | exact fp_one (by decide) | refine fp_and (by decide) ?_)
  refine call_of (s_to l hc) rfl (by simp) ?_
  try simp -dsimp
  try (first | exact fp_one (by decide) | refine fp_and (by decide) ?_)
theorem s_eqL (a b c a' b' c' : Int) : Sp Try.prog 83 [aL a b c, aL a' b' c'] (vb (decide (a = a' ∧ b = b' ∧ c = c'))) [] := by
  refine sp_of (m := no) mixed Try.func83 k83 ?_
  simp -dsimp [q]
  refine ⟨fun h e => absurd e h, fun h => ⟨fun h2 _ e => absurd e h2, fun h2 => ⟨fun h3 _ _ => h3, fun h3 => ⟨h, h2, h3⟩⟩⟩⟩
theorem s_eqP (f a b c : Int) (l : List Int) (f' a' b' c' : Int) (l' : List Int) (hl : l.length ≤ 1048576) : Sp Try.prog 19 [aP f a b c l, aP f' a' b' c' l'] (vb (decide (f = f' ∧ (a = a' ∧ b = b' ∧ c = c') ∧ l = l'))) [] := by
  refine sp_of (m := no) mixed Try.func19 k19 ?_
  have w1 := s_eqL a b c a' b' c'
  generalize hp : decide (a = a' ∧ b = b' ∧ c = c') = p at w1
  simp -dsimp [q]
  refine ⟨fun h e => absurd e h, fun h => ?_⟩
  refine call_of (w1) rfl (by simp) ?_
  try simp -dsimp
  try (first | exact fp_one (by decide) | refine fp_and (by decide) ?_)
  cases p
  · simp -dsimp
    have := of_decide_eq_false hp
    intro _ e1 e2 e3
    exact absurd ⟨e1, e2, e3⟩ this
  · simp -dsimp
    have := of_decide_eq_true hp
    refine call_of (s_eq l l' hl) rfl (by simp) ?_
    try simp -dsimp
    try (first | exact fp_one (by decide) | refine fp_and (by decide) ?_)
    exact ⟨fun h3 _ _ _ _ => h3, fun h3 => ⟨h, this, h3⟩⟩
theorem s_eqV (x y x' y' : Int) : Sp Try.prog 18 [aV x y, aV x' y'] (vb (decide (x = x' ∧ y = y'))) [] := by
  refine sp_of (m := no) mixed Try.func18 k18 ?_
  simp -dsimp [q]
  refine ⟨fun h e => absurd e h, fun h => ⟨fun h2 _ => h2, fun h2 => ⟨h, h2⟩⟩⟩
abbrev vvs' (l : List (Int × Int)) : V := .sl 2 (vs l)
theorem s_toV (x y : Int) : Sp Try.prog 41 [aV x y] (aV x y) [] := by
  refine sp_of (m := no) mixed Try.func41 k41 ?_
  simp -dsimp [q]
theorem s_szVS (l : List (Int × Int)) (n : Int) (h : l.length ≤ maxLen) (hn : 0 ≤ n ∧ n ≤ 1048576) : Sp Try.prog 20 [.v (vvs' l), vi n] (vi (if n < l.length then -1 else n - l.length)) [] := by
  refine sp_of (m := no) mixed Try.func20 k20 ?_
  rw [mLen] at h
  simp -dsimp [q]
  rw [w64 (by omega) (by omega)]
  constructor
  · intro h1 h2; omega
  · intro h1; rw [if_neg (by omega)]
theorem s_toVS (l : List (Int × Int)) (h : l.length ≤ 1048576) : Sp Try.prog 22 [.v (vvs' l)] (.sli 0) [.row 2 29 (vs l)] := by
  refine sp_of (m := no) mixed Try.func22 k22 ?_
  simp -dsimp [q]
  refine ⟨⟨by omega, by omega⟩, ?_⟩
  refine awp_it (true :: false :: false :: true :: true :: []) (fun i : Nat => [(4, vi i)]) (fun i => [(0, .row 2 29 (vs (l.take i ++ List.replicate (l.length - i) (0, 0))))]) (fun i => i ≤ l.length) (fun i => l.length - i) 0 ?_
  intro s0 e
  simp -dsimp at e
  subst e
  refine ⟨?_, ?_⟩
  · simp
  intro i hi
  simp -dsimp
  refine ⟨fun h1 => ⟨h1, fun x y ha => ?_⟩, fun h1 => ?_⟩
  · refine call_of (s_toV x y) rfl (by simp) ?_
    try simp -dsimp
    try (first | exact fp_one (by decide) | refine fp_and (by decide) ?_)
    refine ⟨by omega, by omega, i + 1, ⟨by rw [w64 (by omega) (by omega)]; simp, ?_⟩, by omega, by omega⟩
    exact fill_set ha
  · have : i = l.length := by omega
    subst this
    simp
theorem s_eqVS (xs ys : List (Int × Int)) (hx : xs.length ≤ 1048576) : Sp Try.prog 24 [.v (vvs' xs), .v (vvs' ys)] (vb (decide (xs = ys))) [] := by
  refine sp_of (m := no) mixed Try.func24 k24 ?_
  simp -dsimp [q]
  refine ⟨fun h e => h (by rw [e]), fun hl => ?_⟩
  refine awp_it (true :: true :: false :: false :: false :: true :: []) (fun i : Nat => [(5, vi i)]) (fun i => []) (fun i => i ≤ xs.length ∧ xs.take i = ys.take i) (fun i => xs.length - i) 0 ?_
  intro s0 e
  simp -dsimp at e
  subst e
  refine ⟨?_, ?_⟩
  · simp
  intro i hi
  simp -dsimp
  obtain ⟨hi, ht⟩ := hi
  refine ⟨fun h1 => ⟨h1, fun a a' ha => ⟨by omega, fun b b' hb => ?_⟩⟩, fun h1 => ?_⟩
  · refine call_of (s_eqV a a' b b') rfl (by simp) ?_
    try simp -dsimp
    try (first | exact fp_one (by decide) | refine fp_and (by decide) ?_)
    refine ⟨fun hn e => ?_, fun e e' => ⟨i + 1, by rw [w64 (by omega) (by omega)]; simp, ⟨by omega, ?_⟩, by omega⟩⟩
    · subst e
      rw [ha] at hb
      cases hb
      rcases hn with h | h <;> exact h rfl
    · subst e e'
      rw [List.take_add_one, List.take_add_one, ht, ha, hb]
  · have h2 : i = xs.length := by omega
    subst h2
    rw [List.take_length, List.take_of_length_le (by omega)] at ht
    exact ht
def mkV (k : Int) (n : Nat) : List (Int × Int) := (List.range n).map fun i : Nat => (k + 2 * i, k + 2 * i + 1)
theorem s_markVS (l : List (Int × Int)) (k : Int) (t : Nat) (hx : l.length ≤ 1048576) (hk : 0 ≤ k ∧ k ≤ 1000000000) : SpG Try.prog 28 [.sli 0, vi k] [.row 2 t (vs l)] (vi (k + 2 * l.length)) [.row 2 t (vs (mkV k l.length))] := by
  refine sg_of (m := no) mixed Try.func28 k28 ?_
  simp -dsimp [q]
  refine awp_it (true :: true :: false :: false :: false :: true :: []) (fun i : Nat => [(1, vi (k + 2 * i)), (5, vi i)]) (fun i => [(0, .row 2 t (vs (mkV k i ++ l.drop i)))]) (fun i => i ≤ l.length) (fun i => l.length - i) 0 ?_
  intro s0 e
  simp -dsimp at e
  subst e
  refine ⟨?_, ?_⟩
  · simp [mkV]
  intro i hi
  simp -dsimp [mkV]
  have hlen : ((List.range i).map fun i : Nat => (k + 2 * (i : Int), k + 2 * (i : Int) + 1)).length = i := by simp
  have hsnoc : ((List.range (i + 1)).map fun i : Nat => (k + 2 * (i : Int), k + 2 * (i : Int) + 1)) = ((List.range i).map fun i : Nat => (k + 2 * (i : Int), k + 2 * (i : Int) + 1)) ++ [(k + 2 * (i : Int), k + 2 * (i : Int) + 1)] := by rw [List.range_succ, List.map_append]; rfl
  generalize hM : ((List.range i).map fun i : Nat => (k + 2 * (i : Int), k + 2 * (i : Int) + 1)) = M at *
  refine ⟨fun h1 => ?_, fun h1 => ?_⟩
  · have hd := List.drop_eq_getElem_cons (show i < l.length by omega)
    rw [hd]
    refine ⟨h1, by omega, fun a b hab => ⟨h1, by omega, fun a' b' hab' => ⟨i + 1, ⟨⟨?_, by rw [w64 (by omega) (by omega)]; simp⟩, ?_⟩, by omega, by omega⟩⟩⟩
    · rw [w64 (n := k + 2 * (i : Int) + 1) (by omega) (by omega), w64 (by omega) (by omega)]; omega
    · rw [List.set_cons_zero, List.getElem?_append_right (by omega), hlen] at hab'
      simp only [Nat.sub_self, List.getElem?_cons_zero, Option.some.injEq, Prod.mk.injEq] at hab'
      rw [w64 (by omega) (by omega), ← hab'.1, hsnoc]
      simp
      rw [hd, List.set_cons_zero]
  · have : i = l.length := by omega
    subst this
    simp [← hM]
/-! marks on patterns -/
theorem s_markP (f a b c : Int) (l : List Int) (k : Int) (t : Nat) (hc : l.length ≤ 1048576) (hk : 0 ≤ k ∧ k ≤ 1000000000) : SpG Try.prog 27 [oP f a b c 0, vi k] [.row 0 t (is l)] (vi (k + l.length)) [.row 0 t (is ((List.range l.length).map fun i : Nat => k + i))] := by
  refine sg_of (m := fun f => f == 90) mixed Try.func27 k27 ?_
  simp -dsimp [q]
  refine callM_of rfl (s_mark l k hc hk t) (by simp) ?_
  try simp -dsimp
  try (first | exact fp_one (by decide) | refine fp_and (by decide) ?_)
theorem s_heldP (f a b c : Int) (l : List Int) (k : Int) (t : Nat) (hc : l.length ≤ 1048576) (hk : 0 ≤ k ∧ k ≤ 1000000000) (hh : l = (List.range l.length).map fun i : Nat => k + i) : SpG Try.prog 29 [oP f a b c 0, vi k] [.row 0 t (is l)] (vi (k + l.length)) [.row 0 t (is l)] := by
  refine sg_of (m := fun f => f == 91) mixed Try.func29 k29 ?_
  simp -dsimp [q]
  refine callM_of rfl (s_held l k hc hk hh t) (by simp) ?_
  try simp -dsimp
  try (first | exact fp_one (by decide) | refine fp_and (by decide) ?_)
  intro hneg
  omega
theorem s_mark0 (k : Int) : SpG Try.prog 90 [.nil 0, vi k] [] (vi k) [] := by
  refine sg_of (m := no) mixed Try.func90 k90 ?_
  simp -dsimp [q]
  refine awp_it (true :: true :: false :: false :: false :: true :: []) (fun i : Nat => [(5, vi i)]) (fun i => []) (fun i => i = 0) (fun i => 0) 0 ?_
  intro s0 e
  simp -dsimp at e
  subst e
  refine ⟨?_, ?_⟩
  · simp
  rintro i rfl
  simp -dsimp
theorem s_held0 (k : Int) : SpG Try.prog 91 [.nil 0, vi k] [] (vi k) [] := by
  refine sg_of (m := no) mixed Try.func91 k91 ?_
  simp -dsimp [q]
  refine awp_it (true :: true :: false :: false :: false :: true :: []) (fun i : Nat => [(5, vi i)]) (fun i => []) (fun i => i = 0) (fun i => 0) 0 ?_
  intro s0 e
  simp -dsimp at e
  subst e
  refine ⟨?_, ?_⟩
  · simp
  rintro i rfl
  simp -dsimp
abbrev zP' : A := .ag [vi 0, vi 0, vi 0, vi 0, .nil 0]
theorem s_markP0 (k : Int) : SpG Try.prog 27 [zP', vi k] [] (vi k) [] := by
  refine sg_of (m := fun f => f == 90) mixed Try.func27 k27 ?_
  simp -dsimp [q]
  refine callM_of rfl (s_mark0 k) (by simp) ?_
  try simp -dsimp
  try (first | exact fp_one (by decide) | refine fp_and (by decide) ?_)
theorem s_heldP0 (k : Int) (hk : 0 ≤ k) : SpG Try.prog 29 [zP', vi k] [] (vi k) [] := by
  refine sg_of (m := fun f => f == 91) mixed Try.func29 k29 ?_
  simp -dsimp [q]
  refine callM_of rfl (s_held0 k) (by simp) ?_
  try simp -dsimp
  try (first | exact fp_one (by decide) | refine fp_and (by decide) ?_)
  intro hneg
  omega
end Go.Proofs.YtihkjljafjhniaaEv
namespace Go.Proofs.YtihkjljafjhniaaEv
open Go Go.Proofs
set_option maxRecDepth 10000
abbrev G6 := M4 × Int × Int
def vg (g : G6) : V := .ag [.int .i64 g.1.1, .int .i64 g.1.2.1, .int .i64 g.1.2.2.1, .int .i64 g.1.2.2.2, .int .i64 g.2.1, .int .i64 g.2.2]
def gs (l : List G6) : List V := l.map vg
abbrev aG6 (g : G6) : A := aG g.1.1 g.1.2.1 g.1.2.2.1 g.1.2.2.2 g.2.1 g.2.2
def smallG (g : G6) : Prop := (g.1.1.natAbs ≤ 1000 ∧ g.1.2.1.natAbs ≤ 1000) ∧ (g.1.2.2.1.natAbs ≤ 1000 ∧ g.1.2.2.2.natAbs ≤ 1000) ∧ g.2.1.natAbs ≤ 1000 ∧ g.2.2.natAbs ≤ 1000
def mvV (a b c : Int) (g : G6) (v : Int × Int) : Int × Int := (redX a b c (g.1.1 * v.1 + g.1.2.1 * v.2 + g.2.1) (g.1.2.2.1 * v.1 + g.1.2.2.2 * v.2 + g.2.2), (g.1.2.2.1 * v.1 + g.1.2.2.2 * v.2 + g.2.2) % c)
theorem s_take (a b c : Int) (g : G6) (x y : Int) (hg : smallG g) (ha : 1 ≤ a ∧ a ≤ 64) (hb : 0 ≤ b ∧ b < a) (hc : 1 ≤ c ∧ c ≤ 64) (hx : x.natAbs ≤ 1000 ∧ y.natAbs ≤ 1000) : Sp Try.prog 104 [aL a b c, aG6 g, aV x y] (aV (mvV a b c g (x, y)).1 (mvV a b c g (x, y)).2) [] := by
  refine sp_of (m := no) mixed Try.func104 k104 ?_
  obtain ⟨g1, g2, g3⟩ := hg
  have h1 := mul_bd g1.1 hx.1
  have h2 := mul_bd g1.2 hx.2
  have h3 := mul_bd g2.1 hx.1
  have h4 := mul_bd g2.2 hx.2
  simp -dsimp [q]
  refine call_of (s_gapply _ _ _ _ _ _ x y ⟨g1, g2⟩ ⟨by omega, by omega⟩ ⟨by omega, by omega⟩) rfl (by simp) ?_
  try simp -dsimp
  try (first | exact fp_one (by decide) | refine fp_and (by decide) ?_)
  refine call_of (s_reduce a b c _ _ ha hb hc (by omega) (by omega)) rfl (by simp) ?_
  try simp -dsimp
  try (first | exact fp_one (by decide) | refine fp_and (by decide) ?_)
  exact ⟨rfl, rfl⟩
theorem s_smove (a b c : Int) (g : G6) (x y : Int) (hg : smallG g) (ha : 1 ≤ a ∧ a ≤ 64) (hb : 0 ≤ b ∧ b < a) (hc : 1 ≤ c ∧ c ≤ 64) (hx : x.natAbs ≤ 1000 ∧ y.natAbs ≤ 1000) : Sp Try.prog 100 [aL a b c, aG6 g, aV x y] (aV (mvV a b c g (x, y)).1 (mvV a b c g (x, y)).2) [] := by
  refine sp_of (m := no) mixed Try.func100 k100 ?_
  obtain ⟨g1, g2, g3⟩ := hg
  have h1 := mul_bd g1.1 hx.1
  have h2 := mul_bd g1.2 hx.2
  have h3 := mul_bd g2.1 hx.1
  have h4 := mul_bd g2.2 hx.2
  simp -dsimp [q]
  refine call_of (s_sgapply _ _ _ _ _ _ x y ⟨g1, g2⟩ ⟨by omega, by omega⟩ ⟨by omega, by omega⟩) rfl (by simp) ?_
  try simp -dsimp
  try (first | exact fp_one (by decide) | refine fp_and (by decide) ?_)
  refine call_of (s_sreduce a b c _ _ ha hb hc (by omega) (by omega)) rfl (by simp) ?_
  try simp -dsimp
  try (first | exact fp_one (by decide) | refine fp_and (by decide) ?_)
  exact ⟨rfl, rfl⟩
theorem s_fcode (f a b c : Int) : Sp Try.prog 102 [vi f, aL a b c] (vi (if 0 ≤ f ∧ f ≤ 1 ∧ okL a b c = true then 0 else 1)) [] := by
  refine sp_of (m := no) mixed Try.func102 k102 ?_
  have w1 := s_isFr f
  have w2 := s_isL a b c
  simp -dsimp [q]
  by_cases h1 : 0 ≤ f ∧ f ≤ 1
  case neg =>
    rw [decide_eq_false h1] at w1
    rw [if_neg (fun h => h1 ⟨h.1, h.2.1⟩)]
    refine call_of (w1) rfl (by simp) ?_
    try simp -dsimp
    try (first | exact fp_one (by decide) | refine fp_and (by decide) ?_)
  rw [decide_eq_true h1] at w1
  refine call_of (w1) rfl (by simp) ?_
  try simp -dsimp
  try (first | exact fp_one (by decide) | refine fp_and (by decide) ?_)
  by_cases h2 : okL a b c = true
  case neg =>
    rw [if_neg (fun h => h2 h.2.2)]
    rw [show okL a b c = false by simpa using h2] at w2
    refine call_of (w2) rfl (by simp) ?_
    try simp -dsimp
    try (first | exact fp_one (by decide) | refine fp_and (by decide) ?_)
  rw [if_pos ⟨h1.1, h1.2, h2⟩]
  rw [h2] at w2
  refine call_of (w2) rfl (by simp) ?_
  try simp -dsimp
  try (first | exact fp_one (by decide) | refine fp_and (by decide) ?_)
theorem s_s6code (f a b c : Int) (t : Bool) : Sp Try.prog 98 [vi f, aL a b c, vb t] (vi (if 0 ≤ f ∧ f ≤ 1 ∧ okL a b c = true then (if t = true then 0 else 2) else 1)) [] := by
  refine sp_of (m := no) mixed Try.func98 k98 ?_
  have w1 := s_scode f a b c
  simp -dsimp [q]
  by_cases h1 : 0 ≤ f ∧ f ≤ 1 ∧ okL a b c = true
  case neg =>
    rw [if_neg h1] at *
    refine call_of (w1) rfl (by simp) ?_
    try simp -dsimp
    try (first | exact fp_one (by decide) | refine fp_and (by decide) ?_)
  rw [if_pos h1] at *
  refine call_of (w1) rfl (by simp) ?_
  try simp -dsimp
  try (first | exact fp_one (by decide) | refine fp_and (by decide) ?_)
def suitG (f a b c : Int) (g : G6) : Bool := suit f a b c g.1.1 g.1.2.1 g.1.2.2.1 g.1.2.2.2 g.2.1 g.2.2
theorem suit_small {f a b c : Int} (hf : 0 ≤ f ∧ f ≤ 1) {g : G6} (h : suitG f a b c g = true) : smallG g ∧ (g.1.1.natAbs ≤ 1 ∧ g.1.2.1.natAbs ≤ 1) ∧ (g.1.2.2.1.natAbs ≤ 1 ∧ g.1.2.2.2.natAbs ≤ 1) := by
  simp only [suitG, suit, Bool.and_eq_true] at h
  obtain ⟨h1, h2, _⟩ := pm_facts hf h.1.1
  have h3 := okV_spec.1 h.2
  exact ⟨⟨⟨by omega, by omega⟩, ⟨by omega, by omega⟩, by omega, by omega⟩, h1, h2⟩
def fixN (a b c : Int) (g : G6) (l : List (Int × Int)) : Nat := l.countP fun v => decide (mvV a b c g v = v)
theorem fixN_succ {a b c : Int} {g : G6} {l : List (Int × Int)} {i : Nat} {v : Int × Int} (h : l[i]? = some v) : fixN a b c g (l.take (i + 1)) = fixN a b c g (l.take i) + if mvV a b c g v = v then 1 else 0 := by
  unfold fixN
  rw [List.take_add_one, h, List.countP_append]
  simp [List.countP_cons]
theorem s_fixed (f a b c : Int) (g : G6) (hf : 0 ≤ f ∧ f ≤ 1) (h : okL a b c = true) (hg : suitG f a b c g = true) : Sp Try.prog 35 [vi f, aL a b c, aG6 g] (.tu [vi (fixN a b c g (cellsL c.toNat a.toNat)), vi 0]) [] := by
  obtain ⟨ha, hc, hb, hac⟩ := okL_spec.1 h
  refine sp_of (m := no) mixed Try.func35 k35 ?_
  have w1 := s_fcode f a b c
  rw [if_pos ⟨hf.1, hf.2, h⟩] at w1
  have w2 := s_suit f a b c g.1.1 g.1.2.1 g.1.2.2.1 g.1.2.2.2 g.2.1 g.2.2 hf h
  rw [show suit f a b c g.1.1 g.1.2.1 g.1.2.2.1 g.1.2.2.2 g.2.1 g.2.2 = true from hg] at w2
  obtain ⟨hsm, _⟩ := suit_small hf hg
  simp -dsimp [q]
  refine call_of (w1) rfl (by simp) ?_
  try simp -dsimp
  try (first | exact fp_one (by decide) | refine fp_and (by decide) ?_)
  refine call_of (w2) rfl (by simp) ?_
  try simp -dsimp
  try (first | exact fp_one (by decide) | refine fp_and (by decide) ?_)
  refine call_of (s_cells a b c ha hc) rfl (by simp) ?_
  try simp -dsimp
  try (first | exact fp_one (by decide) | refine fp_and (by decide) ?_)
  have hN : (cellsL c.toNat a.toNat).length ≤ 4096 := by rw [cellsL_len]; exact nat_ac ha hc (by omega)
  refine awp_it (false :: false :: false :: false :: true :: true :: false :: false :: false :: true :: false :: false :: false :: false :: false :: false :: false :: false :: false :: false :: false :: false :: false :: false :: true :: true :: true :: []) (fun i : Nat => [(9, vi (fixN a b c g ((cellsL c.toNat a.toNat).take i))), (26, vi i)]) (fun i => []) (fun i => i ≤ (cellsL c.toNat a.toNat).length) (fun i => (cellsL c.toNat a.toNat).length - i) 0 ?_
  intro s0 e
  simp -dsimp at e
  subst e
  refine ⟨?_, ?_⟩
  · simp [fixN]
  intro i hi
  simp -dsimp
  refine ⟨fun h1 => ⟨h1, fun x y ha' => ?_⟩, fun h1 => ?_⟩
  · obtain ⟨⟨c1, c2⟩, _⟩ := cell_of ha.1 hc.1 ha'
    refine call_of (s_take a b c g x y hsm ha hb hc ⟨by omega, by omega⟩) rfl (by simp) ?_
    try simp -dsimp
    try (first | exact fp_one (by decide) | refine fp_and (by decide) ?_)
    have hs := fixN_succ (a := a) (b := b) (c := c) (g := g) ha'
    have hle : fixN a b c g ((cellsL c.toNat a.toNat).take i) ≤ i := Nat.le_trans List.countP_le_length (by simp; omega)
    refine ⟨fun e1 e2 => ⟨i + 1, ⟨?_, by rw [w64 (by omega) (by omega)]; simp⟩, by omega, by omega⟩, fun hn => ⟨i + 1, ⟨?_, by rw [w64 (by omega) (by omega)]; simp⟩, by omega, by omega⟩⟩
    · rw [hs, if_pos (Prod.ext e1 e2), w64 (by omega) (by omega)]; simp
    · rw [hs, if_neg (fun e => hn (congrArg Prod.fst e) (congrArg Prod.snd e))]; simp
  · have : i = (cellsL c.toNat a.toNat).length := by omega
    subst this
    simp
theorem s_fixed_bad (f a b c : Int) (g : G6) (h : ¬ (0 ≤ f ∧ f ≤ 1 ∧ okL a b c = true)) : Sp Try.prog 35 [vi f, aL a b c, aG6 g] (.tu [vi 0, vi 1]) [] := by
  refine sp_of (m := no) mixed Try.func35 k35 ?_
  have w1 := s_fcode f a b c
  rw [if_neg h] at w1
  simp -dsimp [q]
  refine call_of (w1) rfl (by simp) ?_
  try simp -dsimp
  try (first | exact fp_one (by decide) | refine fp_and (by decide) ?_)
theorem s_fixed_far (f a b c : Int) (g : G6) (hf : 0 ≤ f ∧ f ≤ 1) (h : okL a b c = true) (hg : suitG f a b c g = false) : Sp Try.prog 35 [vi f, aL a b c, aG6 g] (.tu [vi 0, vi 2]) [] := by
  refine sp_of (m := no) mixed Try.func35 k35 ?_
  have w1 := s_fcode f a b c
  rw [if_pos ⟨hf.1, hf.2, h⟩] at w1
  have w2 := s_suit f a b c g.1.1 g.1.2.1 g.1.2.2.1 g.1.2.2.2 g.2.1 g.2.2 hf h
  rw [show suit f a b c g.1.1 g.1.2.1 g.1.2.2.1 g.1.2.2.2 g.2.1 g.2.2 = false from hg] at w2
  simp -dsimp [q]
  refine call_of (w1) rfl (by simp) ?_
  try simp -dsimp
  try (first | exact fp_one (by decide) | refine fp_and (by decide) ?_)
  refine call_of (w2) rfl (by simp) ?_
  try simp -dsimp
  try (first | exact fp_one (by decide) | refine fp_and (by decide) ?_)
theorem s_sfixed (f a b c : Int) (g : G6) (hf : 0 ≤ f ∧ f ≤ 1) (h : okL a b c = true) (hg : suitG f a b c g = true) : Sp Try.prog 32 [vi f, aL a b c, aG6 g] (.tu [vi (fixN a b c g (cellsL c.toNat a.toNat)), vi 0]) [] := by
  obtain ⟨ha, hc, hb, hac⟩ := okL_spec.1 h
  refine sp_of (m := no) mixed Try.func32 k32 ?_
  have w1 := s_s6code f a b c true
  rw [if_pos ⟨hf.1, hf.2, h⟩, if_pos rfl] at w1
  have w2 := s_ssuit' f a b c g.1.1 g.1.2.1 g.1.2.2.1 g.1.2.2.2 g.2.1 g.2.2 true (by rw [decide_eq_true hf, h]; exact hg.symm)
  obtain ⟨hsm, _⟩ := suit_small hf hg
  simp -dsimp [q]
  refine call_of (w2) rfl (by simp) ?_
  try simp -dsimp
  try (first | exact fp_one (by decide) | refine fp_and (by decide) ?_)
  refine call_of (w1) rfl (by simp) ?_
  try simp -dsimp
  try (first | exact fp_one (by decide) | refine fp_and (by decide) ?_)
  refine call_of (s_scells a b c ha hc) rfl (by simp) ?_
  try simp -dsimp
  try (first | exact fp_one (by decide) | refine fp_and (by decide) ?_)
  have hN : (cellsL c.toNat a.toNat).length ≤ 4096 := by rw [cellsL_len]; exact nat_ac ha hc (by omega)
  refine awp_it (false :: false :: false :: false :: true :: true :: false :: false :: false :: true :: true :: true :: []) (fun i : Nat => [(10, vi (fixN a b c g ((cellsL c.toNat a.toNat).take i))), (11, vi i)]) (fun i => []) (fun i => i ≤ (cellsL c.toNat a.toNat).length) (fun i => (cellsL c.toNat a.toNat).length - i) 0 ?_
  intro s0 e
  simp -dsimp at e
  subst e
  refine ⟨?_, ?_⟩
  · simp [fixN]
  intro i hi
  simp -dsimp
  refine ⟨fun h1 => ⟨h1, fun x y ha' => ?_⟩, fun h1 => ?_⟩
  · obtain ⟨⟨c1, c2⟩, _⟩ := cell_of ha.1 hc.1 ha'
    refine call_of (s_smove a b c g x y hsm ha hb hc ⟨by omega, by omega⟩) rfl (by simp) ?_
    try simp -dsimp
    try (first | exact fp_one (by decide) | refine fp_and (by decide) ?_)
    have hs := fixN_succ (a := a) (b := b) (c := c) (g := g) ha'
    have hle : fixN a b c g ((cellsL c.toNat a.toNat).take i) ≤ i := Nat.le_trans List.countP_le_length (by simp; omega)
    simp -dsimp [ha']
    refine ⟨h1, ?_⟩
    refine ⟨fun e1 e2 => ⟨i + 1, ⟨?_, by rw [w64 (by omega) (by omega)]; simp⟩, by omega, by omega⟩, fun hn => ⟨i + 1, ⟨?_, by rw [w64 (by omega) (by omega)]; simp⟩, by omega, by omega⟩⟩
    · rw [hs, if_pos (Prod.ext e1 e2), w64 (by omega) (by omega)]; simp
    · rw [hs, if_neg (fun e => hn (congrArg Prod.fst e) (congrArg Prod.snd e))]; simp
  · have : i = (cellsL c.toNat a.toNat).length := by omega
    subst this
    simp
theorem s_sfixed_bad (f a b c : Int) (g : G6) (h : ¬ (0 ≤ f ∧ f ≤ 1 ∧ okL a b c = true)) : Sp Try.prog 32 [vi f, aL a b c, aG6 g] (.tu [vi 0, vi 1]) [] := by
  refine sp_of (m := no) mixed Try.func32 k32 ?_
  have w2 := s_ssuit f a b c g.1.1 g.1.2.1 g.1.2.2.1 g.1.2.2.2 g.2.1 g.2.2
  generalize (decide (0 ≤ f ∧ f ≤ 1) && okL a b c && suit f a b c g.1.1 g.1.2.1 g.1.2.2.1 g.1.2.2.2 g.2.1 g.2.2) = T at w2
  have w1 := s_s6code f a b c T
  rw [if_neg h] at w1
  simp -dsimp [q]
  refine call_of (w2) rfl (by simp) ?_
  try simp -dsimp
  try (first | exact fp_one (by decide) | refine fp_and (by decide) ?_)
  refine call_of (w1) rfl (by simp) ?_
  try simp -dsimp
  try (first | exact fp_one (by decide) | refine fp_and (by decide) ?_)
theorem s_sfixed_far (f a b c : Int) (g : G6) (hf : 0 ≤ f ∧ f ≤ 1) (h : okL a b c = true) (hg : suitG f a b c g = false) : Sp Try.prog 32 [vi f, aL a b c, aG6 g] (.tu [vi 0, vi 2]) [] := by
  refine sp_of (m := no) mixed Try.func32 k32 ?_
  have w1 := s_s6code f a b c false
  rw [if_pos ⟨hf.1, hf.2, h⟩] at w1
  have w2 := s_ssuit' f a b c g.1.1 g.1.2.1 g.1.2.2.1 g.1.2.2.2 g.2.1 g.2.2 false (by rw [decide_eq_true hf, h]; exact hg.symm)
  simp -dsimp [q]
  refine call_of (w2) rfl (by simp) ?_
  try simp -dsimp
  try (first | exact fp_one (by decide) | refine fp_and (by decide) ?_)
  refine call_of (w1) rfl (by simp) ?_
  try simp -dsimp
  try (first | exact fp_one (by decide) | refine fp_and (by decide) ?_)
theorem s_toMat (a b c d : Int) : Sp Try.prog 101 [aM a b c d] (aM a b c d) [] := by
  refine sp_of (m := no) mixed Try.func101 k101 ?_
  simp -dsimp [q]
theorem s_toMo (g : G6) : Sp Try.prog 34 [aG6 g] (aG6 g) [] := by
  refine sp_of (m := no) mixed Try.func34 k34 ?_
  simp -dsimp [q]
  refine call_of (s_toMat _ _ _ _) rfl (by simp) ?_
  try simp -dsimp
  try (first | exact fp_one (by decide) | refine fp_and (by decide) ?_)
  refine call_of (s_toV _ _) rfl (by simp) ?_
  try simp -dsimp
  try (first | exact fp_one (by decide) | refine fp_and (by decide) ?_)
theorem fixed_both (f a b c : Int) (g : G6) : ∃ n k, Sp Try.prog 32 [vi f, aL a b c, aG6 g] (.tu [vi n, vi k]) [] ∧ Sp Try.prog 35 [vi f, aL a b c, aG6 g] (.tu [vi n, vi k]) [] := by
  by_cases h : 0 ≤ f ∧ f ≤ 1 ∧ okL a b c = true
  case neg => exact ⟨0, 1, s_sfixed_bad f a b c g h, s_fixed_bad f a b c g h⟩
  cases hg : suitG f a b c g
  · exact ⟨0, 2, s_sfixed_far f a b c g ⟨h.1, h.2.1⟩ h.2.2 hg, s_fixed_far f a b c g ⟨h.1, h.2.1⟩ h.2.2 hg⟩
  · exact ⟨_, 0, s_sfixed f a b c g ⟨h.1, h.2.1⟩ h.2.2 hg, s_fixed f a b c g ⟨h.1, h.2.1⟩ h.2.2 hg⟩
end Go.Proofs.YtihkjljafjhniaaEv
namespace Go.Proofs.YtihkjljafjhniaaEv
open Go Go.Proofs
set_option maxRecDepth 10000
theorem mget_enc {α : Type} [DecidableEq α] (enc : α → V) (hi : ∀ x y, enc x = enc y → x = y) (S : List α) (x : α) : mget (enc x) (S.map fun y => (enc y, V.bool true)) = if x ∈ S then some (.bool true) else none := by
  induction S with
  | nil => rfl
  | cons y S ih =>
    simp only [List.map_cons, mget]
    by_cases h : enc y = enc x
    · rw [if_pos (by rw [cdec_true]; exact h), if_pos (by rw [hi _ _ h]; simp)]
    · rw [if_neg (by rw [cdec_true]; exact h), ih]
      have : x ≠ y := fun e => h (by rw [e])
      simp [this]
theorem mput_enc {α : Type} [DecidableEq α] (enc : α → V) (hi : ∀ x y, enc x = enc y → x = y) (S : List α) (x : α) : mput (enc x) (.bool true) (S.map fun y => (enc y, V.bool true)) = (if x ∈ S then S else S ++ [x]).map fun y => (enc y, V.bool true) := by
  induction S with
  | nil => rfl
  | cons y S ih =>
    simp only [List.map_cons, mput]
    by_cases h : enc y = enc x
    · rw [if_pos (by rw [cdec_true]; exact h), if_pos (by rw [hi _ _ h]; simp), List.map_cons, h]
    · rw [if_neg (by rw [cdec_true]; exact h), ih]
      have : x ≠ y := fun e => h (by rw [e])
      by_cases hx : x ∈ S <;> simp [this, hx]
def sE (S : List (Int × Int)) : List (V × V) := S.map fun y => (vv y, V.bool true)
theorem vv_inj (x y : Int × Int) (h : vv x = vv y) : x = y := by
  obtain ⟨a, b⟩ := x
  obtain ⟨c, d⟩ := y
  simp only [vv, V.ag.injEq, List.cons.injEq, V.int.injEq, true_and, and_true] at h
  rw [h.1, h.2]
@[simp] theorem sE_nil : sE [] = [] := rfl
@[simp] theorem sE_len (S : List (Int × Int)) : (sE S).length = S.length := by simp [sE]
@[simp] theorem sE_get (S : List (Int × Int)) (x y : Int) : lkA (.bool false) false (mget (.ag [.int .i64 x, .int .i64 y]) (sE S)) = .v (.bool (decide ((x, y) ∈ S))) := by
  have := mget_enc vv vv_inj S (x, y)
  rw [show V.ag [.int .i64 x, .int .i64 y] = vv (x, y) from rfl, sE, this]
  by_cases h : (x, y) ∈ S <;> simp [h, lkA]
@[simp] theorem sE_put (S : List (Int × Int)) (x y : Int) : mput (.ag [.int .i64 x, .int .i64 y]) (.bool true) (sE S) = sE (if (x, y) ∈ S then S else S ++ [(x, y)]) := by
  have := mput_enc vv vv_inj S (x, y)
  rw [show V.ag [.int .i64 x, .int .i64 y] = vv (x, y) from rfl, sE, this, sE]
  by_cases h : (x, y) ∈ S <;> simp [h]
@[simp] theorem sE_keyed (S : List (Int × Int)) (x y : Int) : keyed 2 [1, 1] (.ag [.int .i64 x, .int .i64 y]) (sE S) ↔ True := by
  simp only [keyed, iff_true]
  refine ⟨rfl, rfl, fun p hp => ?_⟩
  obtain ⟨v, _, rfl⟩ := List.mem_map.1 hp
  exact ⟨rfl, rfl⟩
def bs (l : List Bool) : List V := l.map .bool
@[simp] theorem bs_len (l : List Bool) : (bs l).length = l.length := by simp [bs]
@[simp] theorem bs_get (l : List Bool) (n : Nat) (K : V → Prop) : fA ((bs l)[n]?) K = ∀ a, l[n]? = some a → K (.bool a) := by unfold bs; exact fA_map
@[simp] theorem bs_set (l : List Bool) (n : Nat) (b : Bool) : (bs l).set n (.bool b) = bs (l.set n b) := by simp [bs, List.map_set]
@[simp] theorem bs_rep (n : Nat) (b : Bool) : List.replicate n (V.bool b) = bs (List.replicate n b) := by simp [bs]
@[simp] theorem bs_inj (a b : List Bool) : bs a = bs b ↔ a = b := by
  constructor
  · exact fun h => (List.map_inj_right (fun x y e => by cases e; rfl)).1 h
  · rintro rfl; rfl
theorem pigeon {α : Type} [BEq α] [LawfulBEq α] : ∀ (S C : List α), S.Nodup → (∀ x ∈ S, x ∈ C) → S.length ≤ C.length
  | [], _, _, _ => Nat.zero_le _
  | x :: S, C, hn, hs => by
    rw [List.nodup_cons] at hn
    have h1 := pigeon S (C.erase x) hn.2 (fun y hy => (List.mem_erase_of_ne (fun e => hn.1 (by rw [← e]; exact hy))).2 (hs y (List.mem_cons_of_mem _ hy)))
    have h2 := hs x List.mem_cons_self
    rw [List.length_erase_of_mem h2] at h1
    have := List.length_pos_of_mem h2
    simp only [List.length_cons]
    omega
/-! the cells of a lattice, and marks on them -/
abbrev cl (a c : Int) : List (Int × Int) := cellsL c.toNat a.toNat
def inC (a c : Int) (v : Int × Int) : Prop := (0 ≤ v.1 ∧ v.1 < a) ∧ 0 ≤ v.2 ∧ v.2 < c
theorem inC_mv {a b c : Int} (ha : 1 ≤ a) (hc : 1 ≤ c) (g : G6) (v : Int × Int) : inC a c (mvV a b c g v) := red_lt ha hc
def ix (c : Int) (v : Int × Int) : Nat := (v.1 * c + v.2).toNat
theorem cl_ix {a c : Int} (ha : 1 ≤ a) (hc : 1 ≤ c) {v : Int × Int} (hv : inC a c v) : (cl a c)[ix c v]? = some v := by
  obtain ⟨x, y⟩ := v
  obtain ⟨h1, h2⟩ := hv
  simp only at h1 h2
  have h3 := (num_lt' h1 h2).2
  obtain ⟨n, rfl⟩ : ∃ n : Nat, c = n := ⟨c.toNat, by omega⟩
  obtain ⟨k, rfl⟩ : ∃ k : Nat, a = k := ⟨a.toNat, by omega⟩
  obtain ⟨i, rfl⟩ : ∃ i : Nat, x = i := ⟨x.toNat, by omega⟩
  obtain ⟨j, rfl⟩ : ∃ j : Nat, y = j := ⟨y.toNat, by omega⟩
  have hk : ix (n : Int) ((i : Int), (j : Int)) = i * n + j := by
    simp only [ix]
    omega
  have hlt : i * n + j < k * n := by
    have : ((i * n + j : Nat) : Int) < ((k * n : Nat) : Int) := by simpa using h3.2
    omega
  unfold cl
  rw [hk, Int.toNat_natCast, Int.toNat_natCast, cellsL_get n (by omega) k _ hlt]
  have h4 : (i * n + j) / n = i := by
    rw [Nat.div_eq_iff (by omega)]
    omega
  have h5 : (i * n + j) % n = j := by
    have := Nat.div_add_mod (i * n + j) n
    rw [h4, Nat.mul_comm] at this
    omega
  rw [h4, h5]
theorem cl_at {a c : Int} (ha : 1 ≤ a) (hc : 1 ≤ c) {i : Nat} {v : Int × Int} (h : (cl a c)[i]? = some v) : inC a c v ∧ ix c v = i := by
  obtain ⟨x, y⟩ := v
  obtain ⟨h1, _, h3⟩ := cell_of ha hc h
  exact ⟨h1, by simp only [ix]; omega⟩
theorem num_ix {a b c : Int} {v : Int × Int} (hv : inC a c v) : num a b c v.1 v.2 = v.1 * c + v.2 ∧ (0 ≤ v.1 * c + v.2 ∧ v.1 * c + v.2 < a * c) := by
  obtain ⟨h1, h2⟩ := hv
  refine ⟨?_, (num_lt' h1 h2).2⟩
  simp only [num, redX]
  rw [Int.ediv_eq_zero_of_lt h2.1 h2.2, Int.emod_eq_of_lt h2.1 h2.2, Int.zero_mul, Int.sub_zero, Int.emod_eq_of_lt h1.1 h1.2]
def marks (a c : Int) (S : List (Int × Int)) : List Bool := (cl a c).map fun v => decide (v ∈ S)
theorem marks_get {a c : Int} (ha : 1 ≤ a) (hc : 1 ≤ c) {v : Int × Int} (hv : inC a c v) (S : List (Int × Int)) : (marks a c S)[ix c v]? = some (decide (v ∈ S)) := by
  simp only [marks, List.getElem?_map, cl_ix ha hc hv, Option.map_some]
theorem marks_len {a c : Int} (S : List (Int × Int)) : (marks a c S).length = (cl a c).length := by simp [marks]
theorem marks_nil {a c : Int} : marks a c [] = List.replicate (cl a c).length false := by
  unfold marks
  rw [List.eq_replicate_iff]
  refine ⟨by simp, fun b hb => ?_⟩
  obtain ⟨v, _, rfl⟩ := List.mem_map.1 hb
  simp
theorem marks_set {a c : Int} (ha : 1 ≤ a) (hc : 1 ≤ c) {v : Int × Int} (hv : inC a c v) (S : List (Int × Int)) : (marks a c S).set (ix c v) true = marks a c (S ++ [v]) := by
  apply List.ext_getElem?
  intro j
  have hg := cl_ix ha hc hv
  rw [List.getElem?_set, marks_len]
  by_cases hj : ix c v = j
  · subst hj
    rw [if_pos rfl, if_pos (List.getElem?_eq_some_iff.1 hg).1]
    simp [marks, hg]
  · rw [if_neg hj]
    simp only [marks, List.getElem?_map]
    cases hw : (cl a c)[j]? with
    | none => rfl
    | some w =>
      have : w ≠ v := fun e => hj (by rw [← e]; exact (cl_at ha hc hw).2)
      simp [this]
/-! cycles -/
def wk (a b c : Int) (g : G6) : Nat → List (Int × Int) → Int × Int → List (Int × Int)
  | 0, S, _ => S
  | n + 1, S, u => if u ∈ S then S else wk a b c g n (S ++ [u]) (mvV a b c g u)
def wkF (a b c : Int) (g : G6) (S : List (Int × Int)) (u : Int × Int) : List (Int × Int) := wk a b c g ((cl a c).length + 1 - S.length) S u
def okSet (a c : Int) (S : List (Int × Int)) : Prop := S.Nodup ∧ ∀ v ∈ S, inC a c v
theorem okSet_len {a c : Int} (ha : 1 ≤ a) (hc : 1 ≤ c) {S : List (Int × Int)} (h : okSet a c S) : S.length ≤ (cl a c).length :=
  pigeon _ _ h.1 fun v hv => List.mem_of_getElem? (cl_ix ha hc (h.2 v hv))
theorem okSet_snoc {a c : Int} {S : List (Int × Int)} (h : okSet a c S) {u : Int × Int} (hu : inC a c u) (hn : u ∉ S) : okSet a c (S ++ [u]) := by
  refine ⟨?_, fun v hv => ?_⟩
  · rw [List.nodup_append]
    refine ⟨h.1, by simp, fun x hx y hy => ?_⟩
    simp only [List.mem_singleton] at hy
    subst hy
    exact fun e => hn (e ▸ hx)
  · rcases List.mem_append.1 hv with hv | hv
    · exact h.2 v hv
    · simp only [List.mem_singleton] at hv
      exact hv ▸ hu
theorem wkF_hit {a b c : Int} (ha : 1 ≤ a) (hc : 1 ≤ c) {g : G6} {S : List (Int × Int)} (h : okSet a c S) {u : Int × Int} (hu : u ∈ S) : wkF a b c g S u = S := by
  have := okSet_len ha hc h
  unfold wkF
  rw [show (cl a c).length + 1 - S.length = ((cl a c).length - S.length) + 1 by omega]
  simp [wk, hu]
theorem wkF_miss {a b c : Int} (ha : 1 ≤ a) (hc : 1 ≤ c) {g : G6} {S : List (Int × Int)} (h : okSet a c S) {u : Int × Int} (hi : inC a c u) (hu : u ∉ S) : wkF a b c g S u = wkF a b c g (S ++ [u]) (mvV a b c g u) ∧ S.length < (cl a c).length := by
  have := okSet_len ha hc (okSet_snoc h hi hu)
  simp only [List.length_append, List.length_singleton] at this
  refine ⟨?_, by omega⟩
  unfold wkF
  rw [show (cl a c).length + 1 - S.length = ((cl a c).length + 1 - (S ++ [u]).length) + 1 by simp; omega]
  simp [wk, hu]
def cy1 (a b c : Int) (g : G6) (st : List (Int × Int) × Nat) (v : Int × Int) : List (Int × Int) × Nat := if v ∈ st.1 then st else (wkF a b c g st.1 v, st.2 + 1)
def cyS (a b c : Int) (g : G6) (l : List (Int × Int)) : List (Int × Int) × Nat := l.foldl (cy1 a b c g) ([], 0)
theorem cyS_succ {a b c : Int} {g : G6} {l : List (Int × Int)} {i : Nat} {v : Int × Int} (h : l[i]? = some v) : cyS a b c g (l.take (i + 1)) = cy1 a b c g (cyS a b c g (l.take i)) v := by
  unfold cyS
  rw [List.take_add_one, h, List.foldl_append]
  rfl
theorem wk_ok {a b c : Int} (ha : 1 ≤ a) (hc : 1 ≤ c) {g : G6} : ∀ (n : Nat) (S : List (Int × Int)) (u : Int × Int), okSet a c S → inC a c u → okSet a c (wk a b c g n S u)
  | 0, S, u, h, _ => h
  | n + 1, S, u, h, hu => by
    simp only [wk]
    split
    · exact h
    · rename_i hn
      exact wk_ok ha hc n _ _ (okSet_snoc h hu hn) (inC_mv ha hc g u)
theorem cyS_ok {a b c : Int} (ha : 1 ≤ a) (hc : 1 ≤ c) {g : G6} : ∀ i, okSet a c (cyS a b c g ((cl a c).take i)).1 ∧ (cyS a b c g ((cl a c).take i)).2 ≤ i
  | 0 => by simp [cyS, okSet]
  | i + 1 => by
    obtain ⟨h1, h2⟩ := cyS_ok ha hc (g := g) i
    cases hv : (cl a c)[i]? with
    | none =>
      rw [List.take_of_length_le (by have := List.getElem?_eq_none_iff.1 hv; omega)]
      rw [List.take_of_length_le (by have := List.getElem?_eq_none_iff.1 hv; omega)] at h1 h2
      exact ⟨h1, by omega⟩
    | some v =>
      rw [cyS_succ hv]
      unfold cy1
      split
      · exact ⟨h1, by omega⟩
      · exact ⟨wk_ok ha hc _ _ _ h1 (cl_at ha hc hv).1, by simp only; omega⟩
theorem s_cyc (a b c : Int) (g : G6) (hg : smallG g) (ha : 1 ≤ a ∧ a ≤ 64) (hb : 0 ≤ b ∧ b < a) (hc : 1 ≤ c ∧ c ≤ 64) : Sp Try.prog 106 [aL a b c, aG6 g] (vi (cyS a b c g (cl a c)).2) [] := by
  refine sp_of (m := no) mixed Try.func106 k106 ?_
  have hN : (cl a c).length ≤ 4096 := by unfold cl; rw [cellsL_len]; exact nat_ac ha hc (by omega)
  have w := s_cells a b c ha hc
  change Sp _ _ _ _ [.row 2 29 (vs (cl a c))] at w
  have cls := @cl_at a c ha.1 hc.1
  have cyss := @cyS_succ a b c g (cl a c)
  have cyso := @cyS_ok a b c ha.1 hc.1 g
  have whit := @wkF_hit a b c ha.1 hc.1 g
  have wmiss := @wkF_miss a b c ha.1 hc.1 g
  generalize hL : cl a c = L at *
  simp -dsimp [q]
  refine call_of (w) rfl (by simp) ?_
  try simp -dsimp
  try (first | exact fp_one (by decide) | refine fp_and (by decide) ?_)
  refine awp_it (false :: false :: true :: true :: false :: true :: true :: false :: false :: false :: false :: false :: true :: true :: true :: []) (fun i : Nat => [(5, vi (cyS a b c g (L.take i)).2), (14, vi i)]) (fun i => [(2, .map [] (sE (cyS a b c g (L.take i)).1))]) (fun i => i ≤ L.length) (fun i => L.length - i) 0 ?_
  intro s0 e
  simp -dsimp at e
  subst e
  refine ⟨?_, ?_⟩
  · simp [cyS]
  intro i hi
  simp -dsimp
  obtain ⟨hok, hle⟩ := cyso i
  refine ⟨fun h1 => ⟨h1, fun x y hxy => ?_⟩, fun h1 => ?_⟩
  · obtain ⟨hin, _⟩ := cls hxy
    have hs := cyss hxy
    refine ⟨fun hm => ⟨i + 1, ⟨⟨?_, by rw [w64 (by omega) (by omega)]; simp⟩, ?_⟩, by omega, by omega⟩, fun hm => ?_⟩
    · rw [hs, cy1, if_pos hm]
    · rw [hs, cy1, if_pos hm]
    · rw [cy1, if_neg hm] at hs
      refine awp_it (false :: false :: true :: true :: false :: true :: true :: false :: false :: true :: false :: false :: true :: true :: true :: []) (fun s : List (Int × Int) × Int × Int => []) (fun s => [(2, .map [] (sE s.1)), (3, .box [vi s.2.1, vi s.2.2])]) (fun s => okSet a c s.1 ∧ inC a c s.2 ∧ wkF a b c g s.1 s.2 = wkF a b c g (cyS a b c g (L.take i)).1 (x, y)) (fun s => L.length - s.1.length) ((cyS a b c g (L.take i)).1, x, y) ?_
      intro s0 e
      simp -dsimp at e
      subst e
      refine ⟨?_, ?_⟩
      · exact ⟨by simp, hok, hin, rfl⟩
      rintro ⟨S, u, v⟩ ⟨k1, k2, k3⟩
      simp -dsimp
      refine ⟨fun hm2 => ?_, fun hm2 => ?_⟩
      · rw [if_neg hm2]
        obtain ⟨u1, u2⟩ := k2
        simp only at u1 u2
        refine call_of (s_take a b c g u v hg ha hb hc ⟨by omega, by omega⟩) rfl (by simp) ?_
        try simp -dsimp
        try (first | exact fp_one (by decide) | refine fp_and (by decide) ?_)
        obtain ⟨m1, m2⟩ := wmiss k1 ⟨u1, u2⟩ hm2
        simp only at m2
        refine ⟨S ++ [(u, v)], (mvV a b c g (u, v)).1, (mvV a b c g (u, v)).2, by simp, ⟨okSet_snoc k1 ⟨u1, u2⟩ hm2, inC_mv ha.1 hc.1 g _, ?_⟩, ?_⟩
        · rw [← k3]; exact m1.symm
        · simp only [List.length_append, List.length_singleton]; omega
      · have k4 : S = (cyS a b c g (L.take (i + 1))).1 := by
          rw [hs]
          simp only
          rw [← k3]
          exact (whit k1 hm2).symm
        refine ⟨i + 1, ⟨⟨?_, by rw [w64 (by omega) (by omega)]; simp⟩, by rw [k4]⟩, by omega, by omega⟩
        rw [hs, w64 (by omega) (by omega)]
        simp
  · have : i = L.length := by omega
    subst this
    simp
theorem s_scyc (a b c : Int) (g : G6) (hg : smallG g) (ha : 1 ≤ a ∧ a ≤ 64) (hb : 0 ≤ b ∧ b < a) (hc : 1 ≤ c ∧ c ≤ 64) : Sp Try.prog 105 [aL a b c, aG6 g] (vi (cyS a b c g (cl a c)).2) [] := by
  refine sp_of (m := no) mixed Try.func105 k105 ?_
  have hN : (cl a c).length ≤ 4096 := by unfold cl; rw [cellsL_len]; exact nat_ac ha hc (by omega)
  have hNN : ((cl a c).length : Int) = a * c := by unfold cl; rw [cellsL_len, Int.natCast_mul, Int.toNat_of_nonneg (by omega), Int.toNat_of_nonneg (by omega)]
  have w := s_scells a b c ha hc
  change Sp _ _ _ _ [.row 2 29 (vs (cl a c))] at w
  have cls := @cl_at a c ha.1 hc.1
  have cyss := @cyS_succ a b c g (cl a c)
  have cyso := @cyS_ok a b c ha.1 hc.1 g
  have whit := @wkF_hit a b c ha.1 hc.1 g
  have wmiss := @wkF_miss a b c ha.1 hc.1 g
  have mget := @marks_get a c ha.1 hc.1
  have mset := @marks_set a c ha.1 hc.1
  have mlen := @marks_len a c
  have mnil := @marks_nil a c
  generalize hL : cl a c = L at *
  simp -dsimp [q]
  refine call_of (w) rfl (by simp) ?_
  try simp -dsimp
  try (first | exact fp_one (by decide) | refine fp_and (by decide) ?_)
  refine ⟨by omega, ?_⟩
  refine awp_it (false :: false :: true :: true :: false :: true :: true :: true :: true :: []) (fun i : Nat => [(7, vi (cyS a b c g (L.take i)).2), (8, vi i)]) (fun i => [(3, .row 0 4 (bs (marks a c (cyS a b c g (L.take i)).1)))]) (fun i => i ≤ L.length) (fun i => L.length - i) 0 ?_
  intro s0 e
  simp -dsimp at e
  subst e
  refine ⟨?_, ?_⟩
  · simp [cyS, mnil]
  intro i hi
  simp -dsimp
  obtain ⟨hok, hle⟩ := cyso i
  refine ⟨fun h1 => ?_, fun h1 => ?_⟩
  · obtain ⟨⟨x, y⟩, hxy⟩ : ∃ v, L[i]? = some v := ⟨_, List.getElem?_eq_getElem h1⟩
    obtain ⟨hin, hix⟩ := cls hxy
    have hs := cyss hxy
    have hmk := mget hin (cyS a b c g (L.take i)).1
    rw [hix] at hmk
    simp -dsimp [hmk, mlen]
    refine ⟨h1, fun hm => ⟨h1, fun x' y' hxy' => ?_⟩, fun hm => ⟨i + 1, ⟨⟨?_, by rw [w64 (by omega) (by omega)]; simp⟩, ?_⟩, by omega, by omega⟩⟩
    · rw [cy1, if_neg hm] at hs
      rw [hxy] at hxy'
      cases hxy'
      refine awp_it (false :: false :: true :: true :: false :: true :: true :: true :: true :: true :: []) (fun s : List (Int × Int) × Int × Int => []) (fun s => [(3, .row 0 4 (bs (marks a c s.1))), (4, .box [vi s.2.1, vi s.2.2])]) (fun s => okSet a c s.1 ∧ inC a c s.2 ∧ wkF a b c g s.1 s.2 = wkF a b c g (cyS a b c g (L.take i)).1 (x, y)) (fun s => L.length - s.1.length) ((cyS a b c g (L.take i)).1, x, y) ?_
      intro s0 e
      simp -dsimp at e
      subst e
      refine ⟨?_, ?_⟩
      · exact ⟨by simp, hok, hin, rfl⟩
      rintro ⟨S, u, v⟩ ⟨k1, k2, k3⟩
      simp -dsimp
      obtain ⟨n1, n2⟩ := num_ix (a := a) (b := b) (c := c) k2
      have mg := mget k2 S
      have ms := mset k2 S
      simp only [ix] at n1 n2 mg ms
      obtain ⟨u1, u2⟩ := k2
      simp only at u1 u2
      have wn := s_snumber a b c u v ha hb hc (by omega) (by omega)
      rw [n1] at wn
      refine call_of (wn) rfl (by simp) ?_
      try simp -dsimp
      try (first | exact fp_one (by decide) | refine fp_and (by decide) ?_)
      simp -dsimp [mg, mlen]
      refine ⟨⟨n2.1, by omega⟩, by omega, fun hm2 => ?_, fun hm2 => ?_⟩
      · refine call_of (wn) rfl (by simp) ?_
        try simp -dsimp
        try (first | exact fp_one (by decide) | refine fp_and (by decide) ?_)
        refine ⟨⟨n2.1, by rw [mlen]; omega⟩, by rw [mlen]; omega, ?_⟩
        rw [ms]
        refine call_of (s_smove a b c g u v hg ha hb hc ⟨by omega, by omega⟩) rfl (by simp) ?_
        try simp -dsimp
        try (first | exact fp_one (by decide) | refine fp_and (by decide) ?_)
        obtain ⟨m1, m2⟩ := wmiss k1 ⟨u1, u2⟩ hm2
        simp only at m2
        refine ⟨S ++ [(u, v)], (mvV a b c g (u, v)).1, (mvV a b c g (u, v)).2, by simp, ⟨okSet_snoc k1 ⟨u1, u2⟩ hm2, inC_mv ha.1 hc.1 g _, ?_⟩, ?_⟩
        · rw [← k3]; exact m1.symm
        · simp only [List.length_append, List.length_singleton]; omega
      · have k4 : S = (cyS a b c g (L.take (i + 1))).1 := by
          rw [hs]
          simp only
          rw [← k3]
          exact (whit k1 hm2).symm
        refine ⟨i + 1, ⟨⟨?_, by rw [w64 (by omega) (by omega)]; simp⟩, by rw [k4]⟩, by omega, by omega⟩
        rw [hs, w64 (by omega) (by omega)]
        simp
    · rw [hs, cy1, if_pos hm]
    · rw [hs, cy1, if_pos hm]
  · have : i = L.length := by omega
    subst this
    simp
theorem cyc_both (f a b c : Int) (g : G6) : ∃ n k, Sp Try.prog 36 [vi f, aL a b c, aG6 g] (.tu [vi n, vi k]) [] ∧ Sp Try.prog 37 [vi f, aL a b c, aG6 g] (.tu [vi n, vi k]) [] := by
  by_cases h : 0 ≤ f ∧ f ≤ 1 ∧ okL a b c = true
  case neg =>
    refine ⟨0, 1, ?_, ?_⟩
    · refine sp_of (m := no) mixed Try.func36 k36 ?_
      have w2 := s_ssuit f a b c g.1.1 g.1.2.1 g.1.2.2.1 g.1.2.2.2 g.2.1 g.2.2
      generalize (decide (0 ≤ f ∧ f ≤ 1) && okL a b c && suit f a b c g.1.1 g.1.2.1 g.1.2.2.1 g.1.2.2.2 g.2.1 g.2.2) = T at w2
      have w1 := s_s6code f a b c T
      rw [if_neg h] at w1
      simp -dsimp [q]
      refine call_of (w2) rfl (by simp) ?_
      try simp -dsimp
      try (first | exact fp_one (by decide) | refine fp_and (by decide) ?_)
      refine call_of (w1) rfl (by simp) ?_
      try simp -dsimp
      try (first | exact fp_one (by decide) | refine fp_and (by decide) ?_)
    · refine sp_of (m := no) mixed Try.func37 k37 ?_
      have w1 := s_fcode f a b c
      rw [if_neg h] at w1
      simp -dsimp [q]
      refine call_of (w1) rfl (by simp) ?_
      try simp -dsimp
      try (first | exact fp_one (by decide) | refine fp_and (by decide) ?_)
  have hf : 0 ≤ f ∧ f ≤ 1 := ⟨h.1, h.2.1⟩
  obtain ⟨ha, hc, hb, hac⟩ := okL_spec.1 h.2.2
  have w1 := s_fcode f a b c
  rw [if_pos h] at w1
  have w2 := s_suit f a b c g.1.1 g.1.2.1 g.1.2.2.1 g.1.2.2.2 g.2.1 g.2.2 hf h.2.2
  have w4 := s_ssuit' f a b c g.1.1 g.1.2.1 g.1.2.2.1 g.1.2.2.2 g.2.1 g.2.2 (suitG f a b c g) (by rw [decide_eq_true hf, h.2.2]; rfl)
  have w3 := s_s6code f a b c (suitG f a b c g)
  rw [if_pos h] at w3
  rw [show suit f a b c g.1.1 g.1.2.1 g.1.2.2.1 g.1.2.2.2 g.2.1 g.2.2 = suitG f a b c g from rfl] at w2
  cases hg : suitG f a b c g
  · rw [hg] at w2 w3 w4
    refine ⟨0, 2, ?_, ?_⟩
    · refine sp_of (m := no) mixed Try.func36 k36 ?_
      simp -dsimp [q]
      refine call_of (w4) rfl (by simp) ?_
      try simp -dsimp
      try (first | exact fp_one (by decide) | refine fp_and (by decide) ?_)
      refine call_of (w3) rfl (by simp) ?_
      try simp -dsimp
      try (first | exact fp_one (by decide) | refine fp_and (by decide) ?_)
    · refine sp_of (m := no) mixed Try.func37 k37 ?_
      simp -dsimp [q]
      refine call_of (w1) rfl (by simp) ?_
      try simp -dsimp
      try (first | exact fp_one (by decide) | refine fp_and (by decide) ?_)
      refine call_of (w2) rfl (by simp) ?_
      try simp -dsimp
      try (first | exact fp_one (by decide) | refine fp_and (by decide) ?_)
  · rw [hg] at w2 w3 w4
    obtain ⟨hsm, _⟩ := suit_small hf hg
    refine ⟨(cyS a b c g (cl a c)).2, 0, ?_, ?_⟩
    · refine sp_of (m := no) mixed Try.func36 k36 ?_
      simp -dsimp [q]
      refine call_of (w4) rfl (by simp) ?_
      try simp -dsimp
      try (first | exact fp_one (by decide) | refine fp_and (by decide) ?_)
      refine call_of (w3) rfl (by simp) ?_
      try simp -dsimp
      try (first | exact fp_one (by decide) | refine fp_and (by decide) ?_)
      refine call_of (s_scyc a b c g hsm ha hb hc) rfl (by simp) ?_
      try simp -dsimp
      try (first | exact fp_one (by decide) | refine fp_and (by decide) ?_)
    · refine sp_of (m := no) mixed Try.func37 k37 ?_
      simp -dsimp [q]
      refine call_of (w1) rfl (by simp) ?_
      try simp -dsimp
      try (first | exact fp_one (by decide) | refine fp_and (by decide) ?_)
      refine call_of (w2) rfl (by simp) ?_
      try simp -dsimp
      try (first | exact fp_one (by decide) | refine fp_and (by decide) ?_)
      refine call_of (s_cyc a b c g hsm ha hb hc) rfl (by simp) ?_
      try simp -dsimp
      try (first | exact fp_one (by decide) | refine fp_and (by decide) ?_)
end Go.Proofs.YtihkjljafjhniaaEv
namespace Go.Proofs.YtihkjljafjhniaaEv
open Go Go.Proofs
set_option maxRecDepth 10000
@[simp] theorem gs_nil : gs [] = [] := rfl
@[simp] theorem gs_len (l : List G6) : (gs l).length = l.length := by simp [gs]
@[simp] theorem gs_get (l : List G6) (n : Nat) (K : V → Prop) : fA ((gs l)[n]?) K = ∀ g, l[n]? = some g → K (.ag [.int .i64 g.1.1, .int .i64 g.1.2.1, .int .i64 g.1.2.2.1, .int .i64 g.1.2.2.2, .int .i64 g.2.1, .int .i64 g.2.2]) := by unfold gs; exact fA_map
@[simp] theorem gs_app (l : List G6) (a b c d x y : Int) : gs l ++ [.ag [.int .i64 a, .int .i64 b, .int .i64 c, .int .i64 d, .int .i64 x, .int .i64 y]] = gs (l ++ [((a, b, c, d), x, y)]) := by simp [gs, vg]
@[simp] theorem gs_set (l : List G6) (n : Nat) (a b c d x y : Int) : (gs l).set n (.ag [.int .i64 a, .int .i64 b, .int .i64 c, .int .i64 d, .int .i64 x, .int .i64 y]) = gs (l.set n ((a, b, c, d), x, y)) := by simp [gs, vg, List.map_set]
@[simp] theorem gs_flat (l : List G6) : (∀ x, x ∈ gs l → x.flat = true) ↔ True := by
  simp only [iff_true]
  intro x hx
  obtain ⟨y, _, rfl⟩ := List.mem_map.1 hx
  rfl
theorem vg_inj (g h : G6) (e : vg g = vg h) : g = h := by
  obtain ⟨⟨a, b, c, d⟩, x, y⟩ := g
  obtain ⟨⟨a', b', c', d'⟩, x', y'⟩ := h
  simp only [vg, V.ag.injEq, List.cons.injEq, V.int.injEq, true_and, and_true] at e
  obtain ⟨rfl, rfl, rfl, rfl, rfl, rfl⟩ := e
  rfl
@[simp] theorem gs_inj (a b : List G6) : gs a = gs b ↔ a = b := by
  constructor
  · exact fun h => (List.map_inj_right (fun x y e => vg_inj x y e)).1 h
  · rintro rfl; rfl
abbrev vgs (l : List G6) : V := .sl 6 (gs l)
def gE (S : List G6) : List (V × V) := S.map fun y => (vg y, V.bool true)
@[simp] theorem gE_nil : gE [] = [] := rfl
@[simp] theorem gE_get (S : List G6) (a b c d x y : Int) : lkA (.bool false) false (mget (.ag [.int .i64 a, .int .i64 b, .int .i64 c, .int .i64 d, .int .i64 x, .int .i64 y]) (gE S)) = .v (.bool (decide (((a, b, c, d), x, y) ∈ S))) := by
  have := mget_enc vg vg_inj S ((a, b, c, d), x, y)
  rw [show V.ag [.int .i64 a, .int .i64 b, .int .i64 c, .int .i64 d, .int .i64 x, .int .i64 y] = vg ((a, b, c, d), x, y) from rfl, gE, this]
  by_cases h : ((a, b, c, d), x, y) ∈ S <;> simp [h, lkA]
@[simp] theorem gE_put (S : List G6) (a b c d x y : Int) : mput (.ag [.int .i64 a, .int .i64 b, .int .i64 c, .int .i64 d, .int .i64 x, .int .i64 y]) (.bool true) (gE S) = gE (if ((a, b, c, d), x, y) ∈ S then S else S ++ [((a, b, c, d), x, y)]) := by
  have := mput_enc vg vg_inj S ((a, b, c, d), x, y)
  rw [show V.ag [.int .i64 a, .int .i64 b, .int .i64 c, .int .i64 d, .int .i64 x, .int .i64 y] = vg ((a, b, c, d), x, y) from rfl, gE, this, gE]
  by_cases h : ((a, b, c, d), x, y) ∈ S <;> simp [h]
@[simp] theorem gE_keyed (S : List G6) (a b c d x y : Int) : keyed 6 [1, 1, 1, 1, 1, 1] (.ag [.int .i64 a, .int .i64 b, .int .i64 c, .int .i64 d, .int .i64 x, .int .i64 y]) (gE S) ↔ True := by
  simp only [keyed, iff_true]
  refine ⟨rfl, rfl, fun p hp => ?_⟩
  obtain ⟨v, _, rfl⟩ := List.mem_map.1 hp
  exact ⟨rfl, rfl⟩
/-! the order -/
def lexLt : List Int → List Int → Bool
  | x :: xs, y :: ys => if x = y then lexLt xs ys else decide (x < y)
  | _, _ => false
theorem lexLt_irr : ∀ xs, lexLt xs xs = false
  | [] => rfl
  | x :: xs => by simp [lexLt, lexLt_irr xs]
theorem lexLt_trans : ∀ {xs ys zs : List Int}, xs.length = ys.length → ys.length = zs.length → lexLt xs ys = true → lexLt ys zs = true → lexLt xs zs = true
  | [], _, _, _, _, h, _ => by simp [lexLt] at h
  | x :: xs, [], _, h, _, _, _ => by simp at h
  | x :: xs, y :: ys, [], _, h, _, _ => by simp at h
  | x :: xs, y :: ys, z :: zs, h1, h2, h3, h4 => by
    simp only [lexLt] at h3 h4 ⊢
    split at h3 <;> split at h4 <;> split
    · exact lexLt_trans (by simpa using h1) (by simpa using h2) h3 h4
    · exfalso; omega
    · exfalso; rename_i e1 e2 e3; simp at h4; omega
    · simp at h4 ⊢; omega
    · exfalso; rename_i e1 e2 e3; simp at h3; omega
    · simp at h3 ⊢; omega
    · simp at h3 h4; omega
    · simp at h3 h4 ⊢; omega
theorem lexLt_at : ∀ {xs ys : List Int} {i : Nat} {x y : Int}, xs.take i = ys.take i → xs[i]? = some x → ys[i]? = some y → x ≠ y → lexLt xs ys = decide (x < y) ∧ xs ≠ ys
  | [], _, _, _, _, _, h, _, _ => by simp at h
  | _ :: _, [], _, _, _, _, _, h, _ => by simp at h
  | a :: xs, b :: ys, 0, x, y, _, h1, h2, hn => by
    simp only [List.getElem?_cons_zero, Option.some.injEq] at h1 h2
    subst h1 h2
    simp [lexLt, hn]
  | a :: xs, b :: ys, i + 1, x, y, h, h1, h2, hn => by
    simp only [List.take_succ_cons, List.cons.injEq] at h
    obtain ⟨rfl, h⟩ := h
    have := lexLt_at h (by simpa using h1) (by simpa using h2) hn
    simp [lexLt, this.1, this.2]
theorem lexLt_app : ∀ {xs ys us vs : List Int}, xs.length = ys.length → lexLt (xs ++ us) (ys ++ vs) = if xs = ys then lexLt us vs else lexLt xs ys
  | [], [], _, _, _ => by simp
  | [], _ :: _, _, _, h => by simp at h
  | _ :: _, [], _, _, h => by simp at h
  | x :: xs, y :: ys, us, vs, h => by
    have := lexLt_app (us := us) (vs := vs) (show xs.length = ys.length by simpa using h)
    simp only [List.cons_append, lexLt]
    by_cases e : x = y
    · subst e
      simp only [if_true, this, List.cons.injEq, true_and]
    · simp [e]
theorem s_cmpN (xs ys : List Int) (hl : xs.length = ys.length) (hx : xs.length ≤ 1048576) : Sp Try.prog 254 [.v (vis xs), .v (vis ys)] (vi (if xs = ys then 0 else if lexLt xs ys = true then -1 else 1)) [] := by
  refine sp_of (m := no) mixed Try.func254 k254 ?_
  simp -dsimp [q]
  refine awp_it (true :: true :: false :: false :: false :: false :: false :: true :: true :: []) (fun i : Nat => [(8, vi i)]) (fun i => []) (fun i => i ≤ xs.length ∧ xs.take i = ys.take i) (fun i => xs.length - i) 0 ?_
  intro s0 e
  simp -dsimp at e
  subst e
  refine ⟨?_, ?_⟩
  · simp
  rintro i ⟨hi, ht⟩
  simp -dsimp
  refine ⟨fun h1 => ⟨h1, fun x hx' => ⟨by omega, fun y hy' => ⟨fun hn => ?_, fun e => ?_⟩⟩⟩, fun h1 => ?_⟩
  · have hl2 := lexLt_at ht hx' hy' hn
    simp -dsimp [hx', hy', hl2]
    exact ⟨by omega, by omega⟩
  · subst e
    refine ⟨i + 1, by rw [w64 (by omega) (by omega)]; simp, ⟨by omega, ?_⟩, by omega⟩
    rw [List.take_add_one, List.take_add_one, ht, hx', hy']
  · rw [List.take_of_length_le h1, List.take_of_length_le (by omega)] at ht
    exact fun hn => absurd ht hn
theorem s_lessL (xs ys : List Int) (hl : xs.length = ys.length) (hx : xs.length ≤ 1048576) : Sp Try.prog 242 [.v (vis xs), .v (vis ys)] (vb (lexLt xs ys)) [] := by
  refine sp_of (m := no) mixed Try.func242 k242 ?_
  simp -dsimp [q]
  refine awp_it (true :: true :: false :: false :: false :: true :: []) (fun i : Nat => [(5, vi i)]) (fun i => []) (fun i => i ≤ xs.length ∧ xs.take i = ys.take i) (fun i => xs.length - i) 0 ?_
  intro s0 e
  simp -dsimp at e
  subst e
  refine ⟨?_, ?_⟩
  · simp
  rintro i ⟨hi, ht⟩
  simp -dsimp
  refine ⟨fun h1 => ⟨fun h2 => ⟨h1, fun x hx' => ⟨h2, fun y hy' => ⟨fun hn => ?_, fun e => ?_⟩⟩⟩, fun h2 => ?_⟩, fun h1 => ?_⟩
  · refine ⟨h1, fun x2 hx2 => ⟨h2, fun y2 hy2 => ?_⟩⟩
    rw [hx'] at hx2
    rw [hy'] at hy2
    cases hx2
    cases hy2
    exact (lexLt_at ht hx' hy' hn).1.symm
  · subst e
    refine ⟨i + 1, by rw [w64 (by omega) (by omega)]; simp, ⟨by omega, ?_⟩, by omega⟩
    rw [List.take_add_one, List.take_add_one, ht, hx', hy']
  · omega
  · rw [List.take_of_length_le h1, List.take_of_length_le (by omega)] at ht
    rw [ht, lexLt_irr]
    simp
def m4 (m : M4) : List Int := [m.1, m.2.1, m.2.2.1, m.2.2.2]
def t2 (v : Int × Int) : List Int := [v.1, v.2]
def ltG (g h : G6) : Bool := if g.1 = h.1 then lexLt (t2 g.2) (t2 h.2) else lexLt (m4 g.1) (m4 h.1)
theorem m4_inj (m n : M4) : m4 m = m4 n ↔ m = n := by
  constructor
  · intro h
    simp only [m4, List.cons.injEq, and_true] at h
    exact Prod.ext h.1 (Prod.ext h.2.1 (Prod.ext h.2.2.1 h.2.2.2))
  · rintro rfl; rfl
theorem ltG_lex (g h : G6) : ltG g h = lexLt (m4 g.1 ++ t2 g.2) (m4 h.1 ++ t2 h.2) := by
  have e : (m4 g.1).length = (m4 h.1).length := rfl
  rw [lexLt_app e]
  clear e
  unfold ltG
  by_cases e : g.1 = h.1
  · rw [if_pos e, if_pos (by rw [e])]
  · rw [if_neg e, if_neg (fun k => e ((m4_inj _ _).1 k))]
theorem ltG_irr (g : G6) : ltG g g = false := by rw [ltG_lex, lexLt_irr]
theorem ltG_trans {g h k : G6} (h1 : ltG g h = true) (h2 : ltG h k = true) : ltG g k = true := by
  rw [ltG_lex] at *
  exact lexLt_trans (ys := m4 h.1 ++ t2 h.2) rfl rfl h1 h2
theorem s_cmpM (m n : M4) : Sp Try.prog 248 [aM4 m, aM4 n] (vi (if m = n then 0 else if lexLt (m4 m) (m4 n) = true then -1 else 1)) [] := by
  refine sp_of (m := no) mixed Try.func248 k248 ?_
  have w := s_cmpN (m4 m) (m4 n) rfl (by simp [m4])
  simp only [m4_inj] at w
  simp -dsimp [q]
  refine call_of ((w : Sp Try.prog _ [.v (.sl 0 [.int .i64 m.1, .int .i64 m.2.1, .int .i64 m.2.2.1, .int .i64 m.2.2.2]), .v (.sl 0 [.int .i64 n.1, .int .i64 n.2.1, .int .i64 n.2.2.1, .int .i64 n.2.2.2])] _ _)) rfl (by simp) ?_
  try simp -dsimp
  try (first | exact fp_one (by decide) | refine fp_and (by decide) ?_)
theorem t2_inj (m n : Int × Int) : t2 m = t2 n ↔ m = n := by
  constructor
  · intro h
    simp only [t2, List.cons.injEq, and_true] at h
    exact Prod.ext h.1 h.2
  · rintro rfl; rfl
theorem s_cmpV (m n : Int × Int) : Sp Try.prog 249 [aV m.1 m.2, aV n.1 n.2] (vi (if m = n then 0 else if lexLt (t2 m) (t2 n) = true then -1 else 1)) [] := by
  refine sp_of (m := no) mixed Try.func249 k249 ?_
  have w := s_cmpN (t2 m) (t2 n) rfl (by simp [t2])
  simp only [t2_inj] at w
  simp -dsimp [q]
  refine call_of ((w : Sp Try.prog _ [.v (.sl 0 [.int .i64 m.1, .int .i64 m.2]), .v (.sl 0 [.int .i64 n.1, .int .i64 n.2])] _ _)) rfl (by simp) ?_
  try simp -dsimp
  try (first | exact fp_one (by decide) | refine fp_and (by decide) ?_)
theorem s_cmpG (g h : G6) : ∃ k, Sp Try.prog 239 [aG6 g, aG6 h] (vi k) [] ∧ (0 ≤ k ↔ ltG g h = false) := by
  have w1 := s_cmpM g.1 h.1
  have w2 := s_cmpV g.2 h.2
  by_cases e : g.1 = h.1
  · rw [if_pos e] at w1
    refine ⟨if g.2 = h.2 then 0 else if lexLt (t2 g.2) (t2 h.2) = true then -1 else 1, ?_, ?_⟩
    · refine sp_of (m := no) mixed Try.func239 k239 ?_
      simp -dsimp [q]
      refine call_of (w1) rfl (by simp) ?_
      try simp -dsimp
      try (first | exact fp_one (by decide) | refine fp_and (by decide) ?_)
      refine call_of (w2) rfl (by simp) ?_
      try simp -dsimp
      try (first | exact fp_one (by decide) | refine fp_and (by decide) ?_)
    · unfold ltG
      rw [if_pos e]
      by_cases e2 : g.2 = h.2
      · rw [if_pos e2, e2, lexLt_irr]; simp
      · rw [if_neg e2]; split <;> simp_all
  · rw [if_neg e] at w1
    refine ⟨if lexLt (m4 g.1) (m4 h.1) = true then -1 else 1, ?_, ?_⟩
    · refine sp_of (m := no) mixed Try.func239 k239 ?_
      simp -dsimp [q]
      refine call_of (w1) rfl (by simp) ?_
      try simp -dsimp
      try (first | exact fp_one (by decide) | refine fp_and (by decide) ?_)
      split <;> simp
    · unfold ltG
      rw [if_neg e]
      split <;> simp_all
theorem s_sless (x y x' y' : Int) : Sp Try.prog 216 [aV x y, aV x' y'] (vb (lexLt (t2 (x, y)) (t2 (x', y')))) [] := by
  refine sp_of (m := no) mixed Try.func216 k216 ?_
  simp -dsimp [q]
  refine ⟨fun h => ⟨fun e => ?_, fun e => ?_⟩, fun h => ?_⟩
  · simp [lexLt, t2, e]
    by_cases e2 : y = y' <;> simp [e2]
  · simp [lexLt, t2, e]
    omega
  · simp [lexLt, t2]
    rw [if_neg (by omega)]
    simpa using h
theorem s_nums (m : M4) : Sp Try.prog 243 [aM4 m] (.v (.sl 0 [.int .i64 m.1, .int .i64 m.2.1, .int .i64 m.2.2.1, .int .i64 m.2.2.2])) [] := by
  refine sp_of (m := no) mixed Try.func243 k243 ?_
  simp -dsimp [q]
theorem s_lessM (m n : M4) : Sp Try.prog 215 [aM4 m, aM4 n] (vb (lexLt (m4 m) (m4 n))) [] := by
  refine sp_of (m := no) mixed Try.func215 k215 ?_
  have w := s_lessL (m4 m) (m4 n) rfl (by simp [m4])
  simp -dsimp [q]
  refine call_of (s_nums m) rfl (by simp) ?_
  try simp -dsimp
  try (first | exact fp_one (by decide) | refine fp_and (by decide) ?_)
  refine call_of (s_nums n) rfl (by simp) ?_
  try simp -dsimp
  try (first | exact fp_one (by decide) | refine fp_and (by decide) ?_)
  refine call_of ((w : Sp Try.prog _ [.v (.sl 0 [.int .i64 m.1, .int .i64 m.2.1, .int .i64 m.2.2.1, .int .i64 m.2.2.2]), .v (.sl 0 [.int .i64 n.1, .int .i64 n.2.1, .int .i64 n.2.2.1, .int .i64 n.2.2.2])] _ _)) rfl (by simp) ?_
  try simp -dsimp
  try (first | exact fp_one (by decide) | refine fp_and (by decide) ?_)
theorem s_lessG (g h : G6) : Sp Try.prog 175 [aG6 g, aG6 h] (vb (ltG g h)) [] := by
  refine sp_of (m := no) mixed Try.func175 k175 ?_
  have w1 := s_lessM g.1 h.1
  have w2 := s_sless g.2.1 g.2.2 h.2.1 h.2.2
  simp -dsimp [q]
  refine ⟨fun hn => ?_, fun e1 e2 e3 e4 => ?_⟩
  · have e : ltG g h = lexLt (m4 g.1) (m4 h.1) := by
      unfold ltG
      rw [if_neg (fun e => by rw [e] at hn; exact hn rfl rfl rfl rfl)]
    rw [← e] at w1
    refine call_of (w1) rfl (by simp) ?_
    try simp -dsimp
    try (first | exact fp_one (by decide) | refine fp_and (by decide) ?_)
  · have e : ltG g h = lexLt (t2 g.2) (t2 h.2) := by
      unfold ltG
      rw [if_pos (Prod.ext e1 (Prod.ext e2 (Prod.ext e3 e4)))]
    rw [← e] at w2
    refine call_of (w2) rfl (by simp) ?_
    try simp -dsimp
    try (first | exact fp_one (by decide) | refine fp_and (by decide) ?_)
/-! searching -/
def srt (l : List G6) : Prop := l.Pairwise fun g h => ltG g h = true
theorem srt_get {l : List G6} (h : srt l) {i j : Nat} {g k : G6} (hi : l[i]? = some g) (hj : l[j]? = some k) (hij : i < j) : ltG g k = true := by
  obtain ⟨hi', rfl⟩ := List.getElem?_eq_some_iff.1 hi
  obtain ⟨hj', rfl⟩ := List.getElem?_eq_some_iff.1 hj
  exact List.pairwise_iff_getElem.1 h i j hi' hj' hij
def plc (l : List G6) (m : G6) : Nat := l.findIdx fun x => !ltG x m
theorem plc_eq {l : List G6} {m : G6} {k : Nat} (hk : k ≤ l.length) (h1 : ∀ (j : Nat) x, j < k → l[j]? = some x → ltG x m = true) (h2 : ∀ (j : Nat) x, k ≤ j → l[j]? = some x → ltG x m = false) : plc l m = k := by
  unfold plc
  by_cases e : k < l.length
  · refine (List.findIdx_eq e).2 ⟨by simp [h2 k l[k] (Nat.le_refl _) (List.getElem?_eq_getElem e)], fun j hj => ?_⟩
    simp [h1 j l[j] hj (List.getElem?_eq_getElem (by omega))]
  · have : k = l.length := by omega
    subst this
    rw [List.findIdx_eq_length]
    intro x hx
    obtain ⟨j, hj⟩ := List.getElem?_of_mem hx
    simp [h1 j x (List.getElem?_eq_some_iff.1 hj).1 hj]
def plI (l : List G6) (m : G6) (lo hi : Nat) : Prop := lo ≤ hi ∧ hi ≤ l.length ∧ (∀ (j : Nat) x, j < lo → l[j]? = some x → ltG x m = true) ∧ ∀ (j : Nat) x, hi ≤ j → l[j]? = some x → ltG x m = false
theorem s_place (l : List G6) (m : G6) (hs : srt l) (hl : l.length ≤ 1048576) : Sp Try.prog 217 [.v (vgs l), aG6 m] (vi (plc l m)) [] := by
  refine sp_of (m := no) mixed Try.func217 k217 ?_
  simp -dsimp [q]
  refine awp_it (true :: false :: false :: true :: false :: true :: true :: []) (fun s : Nat × Nat => [(5, vi s.1), (6, vi s.2)]) (fun s => []) (fun s => plI l m s.1 s.2) (fun s => s.2 - s.1) (0, l.length) ?_
  intro s0 e
  simp -dsimp at e
  subst e
  refine ⟨?_, ?_⟩
  · refine ⟨by simp, by simp, by simp, fun j x hj => by simp at hj, fun j x hj hx => ?_⟩
    have := (List.getElem?_eq_some_iff.1 hx).1
    simp only at hj
    omega
  rintro ⟨lo, hi⟩ ⟨k1, k2, k3, k4⟩
  simp only at k1 k2 k3 k4
  simp -dsimp [-Prod.forall, -Prod.exists]
  refine ⟨fun h1 => ?_, fun h1 => ?_⟩
  · have e : IntKind.i64.wrap ((IntKind.i64.wrap ((lo : Int) + hi)).tdiv 2) = ((lo + hi) / 2 : Nat) := by
      rw [w64 (n := (lo : Int) + hi) (by omega) (by omega), Int.tdiv_eq_ediv_of_nonneg (by omega), w64 (by omega) (by omega)]
      omega
    rw [e]
    generalize hm : (lo + hi) / 2 = md
    have hm1 : lo ≤ md ∧ md < hi := by omega
    refine ⟨⟨by omega, by omega⟩, fun x hx => ?_⟩
    rw [Int.toNat_natCast] at hx
    refine call_of (s_lessG x m) rfl (by simp) ?_
    try simp -dsimp
    try (first | exact fp_one (by decide) | refine fp_and (by decide) ?_)
    refine ⟨fun hlt => ⟨md + 1, hi, ⟨by rw [w64 (by omega) (by omega)]; simp, rfl⟩, ⟨by omega, by omega, fun j y hj hy => ?_, k4⟩, by omega⟩, fun hlt => ⟨lo, md, ⟨rfl, rfl⟩, ⟨by omega, by omega, k3, fun j y hj hy => ?_⟩, by omega⟩⟩
    · by_cases e2 : j = md
      · subst e2
        rw [hx] at hy
        cases hy
        exact hlt
      · exact ltG_trans (srt_get hs hy hx (by omega)) hlt
    · by_cases e2 : j = md
      · subst e2
        rw [hx] at hy
        cases hy
        exact hlt
      · cases hq : ltG y m with
        | false => rfl
        | true =>
          rw [ltG_trans (srt_get hs hx hy (by omega)) hq] at hlt
          cases hlt
  · rw [plc_eq (k := lo) (by omega) k3 (fun j x hj hx => k4 j x (by omega) hx)]
theorem plc_has {l : List G6} {m : G6} (hs : srt l) : (plc l m < l.length ∧ l[plc l m]? = some m) ↔ m ∈ l := by
  constructor
  · exact fun h => List.mem_of_getElem? h.2
  · intro h
    obtain ⟨j, hj⟩ := List.getElem?_of_mem h
    have hjl := (List.getElem?_eq_some_iff.1 hj).1
    have : plc l m = j := plc_eq (by omega) (fun i x hi hx => srt_get hs hx hj hi) (fun i x hi hx => by
      by_cases e : i = j
      · subst e
        rw [hj] at hx
        cases hx
        exact ltG_irr m
      · cases hq : ltG x m with
        | false => rfl
        | true =>
          have := ltG_trans (srt_get hs hj hx (by omega)) hq
          rw [ltG_irr] at this
          cases this)
    rw [this]
    exact ⟨hjl, hj⟩
theorem s_shas (l : List G6) (m : G6) (hs : srt l) (hl : l.length ≤ 1048576) : Sp Try.prog 176 [.v (vgs l), aG6 m] (vb (decide (m ∈ l))) [] := by
  refine sp_of (m := no) mixed Try.func176 k176 ?_
  have hp := plc_has (m := m) hs
  simp -dsimp [q, -Prod.forall, -Prod.exists]
  refine call_of (s_place l m hs hl) rfl (by simp) ?_
  try simp -dsimp
  try (first | exact fp_one (by decide) | refine fp_and (by decide) ?_)
  refine ⟨fun h1 => ⟨h1, fun a b c d x y hx => ?_⟩, fun h1 hm => ?_⟩
  · rw [Bool.eq_iff_iff, cdec_true, decide_eq_true_iff, ← hp, hx]
    obtain ⟨⟨a', b', c', d'⟩, x', y'⟩ := m
    simp only [Option.some.injEq, Prod.mk.injEq]
    constructor
    · rintro ⟨rfl, rfl, rfl, rfl, rfl, rfl⟩; exact ⟨h1, ⟨rfl, rfl, rfl, rfl⟩, rfl, rfl⟩
    · rintro ⟨_, ⟨rfl, rfl, rfl, rfl⟩, rfl, rfl⟩; exact ⟨rfl, rfl, rfl, rfl, rfl, rfl⟩
  · have := (hp.2 hm).1
    omega
end Go.Proofs.YtihkjljafjhniaaEv
namespace Go.Proofs.YtihkjljafjhniaaEv
open Go Go.Proofs
set_option maxRecDepth 10000
theorem s_own (l : List Int) (hl : l.length ≤ 1048576) : Sp Try.prog 138 [.v (vis l)] (.sli 0) [.row 0 2 (is l)] := by
  refine sp_of (m := no) mixed Try.func138 k138 ?_
  simp -dsimp [q]
  exact ⟨by omega, by omega⟩
theorem is_ne (l : List Int) (h : l ≠ []) : is l ≠ [] := by simpa [is] using h
theorem s_clone (l : List Int) (hl : l.length ≤ 1048576) (h0 : l ≠ []) : Sp Try.prog 189 [.v (vis l)] (.sli 0) [.row 0 2 (is l)] := by
  refine sp_of (m := no) mixed Try.func189 k189 ?_
  simp -dsimp [q]
  exact ⟨is_ne l h0, by omega, by omega⟩
def maskL (l : List Int) (ink : Int) : List Int := l.map fun x => if x = ink then 1 else 0
theorem maskL_len (l : List Int) (ink : Int) : (maskL l ink).length = l.length := by simp [maskL]
theorem maskL_take {l : List Int} {ink z : Int} {n : Nat} (h : l[n]? = some z) : (maskL l ink).take (n + 1) = (maskL l ink).take n ++ [if z = ink then 1 else 0] := by
  rw [List.take_add_one]
  simp [maskL, h]
theorem s_mask (f a b c : Int) (l : List Int) (ink : Int) (hl : l.length ≤ 1048576) (h0 : l ≠ []) : Sp Try.prog 127 [aP f a b c l, vi ink] (aP f a b c (maskL l ink)) [] := by
  refine sp_of (m := no) mixed Try.func127 k127 ?_
  simp -dsimp [q]
  refine awp_it (false :: true :: false :: false :: true :: true :: false :: false :: false :: false :: false :: false :: false :: false :: false :: true :: true :: true :: []) (fun i : Nat => [(17, vi i)]) (fun i => match i with | 0 => [] | i + 1 => [(1, .box [vi f, vi a, vi b, vi c, .sli 2]), (2, .row 0 2 (is ((maskL l ink).take (i + 1))))]) (fun i => i ≤ l.length) (fun i => l.length - i) 0 ?_
  intro s0 e
  simp -dsimp at e
  subst e
  refine ⟨?_, ?_⟩
  · simp
  intro i hi
  cases i with
  | zero =>
    simp -dsimp
    refine ⟨fun h1 => ⟨h1, fun z hz => ?_⟩, fun h1 => absurd h1 h0⟩
    have ht := maskL_take (ink := ink) hz
    simp at ht
    constructor
    · intro e
      rw [if_pos e] at ht
      exact ⟨1, by rw [w64 (by omega) (by omega)]; simp [ht], by omega, by omega⟩
    · intro e
      rw [if_neg e] at ht
      exact ⟨1, by rw [w64 (by omega) (by omega)]; simp [ht], by omega, by omega⟩
  | succ i =>
    simp -dsimp [maskL_len]
    refine ⟨fun h1 => ⟨⟨by omega, h1⟩, fun z hz => ?_⟩, fun h1 => ?_⟩
    · have ht := maskL_take (ink := ink) hz
      constructor
      · intro e
        rw [if_pos e] at ht
        refine ⟨⟨by omega, by omega⟩, i + 2, ⟨by rw [w64 (by omega) (by omega)]; simp; omega, ?_⟩, by omega, by omega⟩
        simp [ht]
      · intro e
        rw [if_neg e] at ht
        refine ⟨⟨by omega, by omega⟩, i + 2, ⟨by rw [w64 (by omega) (by omega)]; simp; omega, ?_⟩, by omega, by omega⟩
        simp [ht]
    · rw [List.take_of_length_le (by rw [maskL_len]; omega)]
theorem s_smask (f a b c : Int) (l : List Int) (ink : Int) (hl : l.length ≤ 1048576) : Sp Try.prog 129 [aP f a b c l, vi ink] (aP f a b c (maskL l ink)) [] := by
  refine sp_of (m := no) mixed Try.func129 k129 ?_
  simp -dsimp [q]
  refine awp_it (false :: true :: true :: false :: true :: true :: true :: []) (fun i : Nat => [(6, vi i)]) (fun i => [(3, .row 0 2 (is ((maskL l ink).take i)))]) (fun i => i ≤ l.length) (fun i => l.length - i) 0 ?_
  intro s0 e
  simp -dsimp at e
  subst e
  refine ⟨?_, ?_⟩
  · simp
  intro i hi
  simp -dsimp [maskL_len]
  refine ⟨fun h1 => ⟨h1, fun z hz => ?_⟩, fun h1 => ?_⟩
  · have ht := maskL_take (ink := ink) hz
    constructor
    · intro e
      rw [if_pos e] at ht
      refine ⟨⟨by omega, by omega⟩, i + 1, ⟨by rw [w64 (by omega) (by omega)]; simp, ?_⟩, by omega, by omega⟩
      simp [ht]
    · intro e
      rw [if_neg e] at ht
      refine ⟨⟨by omega, by omega⟩, i + 1, ⟨by rw [w64 (by omega) (by omega)]; simp, ?_⟩, by omega, by omega⟩
      simp [ht]
  · rw [List.take_of_length_le (by rw [maskL_len]; omega)]
abbrev ovI (p m : List Int) (ink : Int) (n : Nat) : List Int := setN (fun k => decide (m.getD k 0 = 1)) (fun k => k) (fun _ => ink) p n
theorem s_overprint (f a b c : Int) (p : List Int) (f' a' b' c' : Int) (m : List Int) (ink : Int) (hp : p.length ≤ 1048576) (h0 : p ≠ []) (hm : m.length = p.length) : Sp Try.prog 132 [aP f a b c p, aP f' a' b' c' m, vi ink] (oP f a b c 0) [.row 0 2 (is (ovI p m ink p.length))] := by
  refine sp_of (m := no) mixed Try.func132 k132 ?_
  simp -dsimp [q]
  refine call_of (s_clone p hp h0) rfl (by simp) ?_
  try simp -dsimp
  try (first | exact fp_one (by decide) | refine fp_and (by decide) ?_)
  refine awp_it (false :: false :: true :: false :: false :: false :: true :: true :: false :: false :: false :: false :: false :: false :: false :: false :: false :: false :: false :: true :: true :: true :: []) (fun i : Nat => [(21, vi i)]) (fun i => [(2, .row 0 2 (is (ovI p m ink i)))]) (fun i => i ≤ p.length) (fun i => p.length - i) 0 ?_
  intro s0 e
  simp -dsimp at e
  subst e
  refine ⟨?_, ?_⟩
  · simp [ovI, setN]
  intro i hi
  simp -dsimp [setN_len, hm]
  refine ⟨fun h1 => ⟨h1, fun z hz => ?_⟩, fun h1 => ?_⟩
  · have hg : m.getD i 0 = z := by simp [hz]
    refine ⟨fun e => ⟨h1, i + 1, ⟨by rw [w64 (by omega) (by omega)]; simp, ?_⟩, by omega, by omega⟩, fun e => ⟨i + 1, ⟨by rw [w64 (by omega) (by omega)]; simp, ?_⟩, by omega, by omega⟩⟩
    · simp only [ovI, setN, hg, decide_eq_true e, if_true]
    · simp only [ovI, setN, hg, decide_eq_false e, if_false, Bool.false_eq_true]
  · rw [show i = p.length by omega]
abbrev ovS (a b c u v : Int) (p m : List Int) (ink : Int) (n : Nat) : List Int := setN (fun k => decide (m.getD k 0 = 1)) (mv a b c u v) (fun _ => ink) p n
theorem s_over (f a b c : Int) (p : List Int) (f' a' b' c' : Int) (m : List Int) (ink u v : Int) (hl : okL a b c = true) (hp : (p.length : Int) = a * c) (hm : m.length = p.length) (hu : u.natAbs ≤ 1000) (hv : v.natAbs ≤ 1000) : Sp Try.prog 134 [aP f a b c p, aP f' a' b' c' m, vi ink, aV u v] (oP f a b c 0) [.row 0 2 (is (ovS a b c u v p m ink p.length))] := by
  obtain ⟨ha, hc, hb, hac⟩ := okL_spec.1 hl
  have h1 := ac_pos ha.1 hc.1
  have hn := nat_n ha.1 hc.1 hp
  refine sp_of (m := no) mixed Try.func134 k134 ?_
  simp -dsimp [q]
  refine call_of (s_scells a b c ha hc) rfl (by simp) ?_
  try simp -dsimp
  try (first | exact fp_one (by decide) | refine fp_and (by decide) ?_)
  refine call_of (s_own p (by omega)) rfl (by simp) ?_
  try simp -dsimp
  try (first | exact fp_one (by decide) | refine fp_and (by decide) ?_)
  refine awp_it (false :: false :: true :: false :: true :: true :: false :: true :: true :: true :: true :: true :: []) (fun i : Nat => [(11, vi i)]) (fun i => [(6, .row 0 2 (is (ovS a b c u v p m ink i)))]) (fun i => i ≤ p.length) (fun i => p.length - i) 0 ?_
  intro s0 e
  simp -dsimp at e
  subst e
  refine ⟨?_, ?_⟩
  · simp [ovS, setN]
  intro i hi
  simp -dsimp [setN_len, hm, cellsL_len, hn]
  refine ⟨fun h1 => ⟨h1, fun z hz => ?_⟩, fun h1 => ?_⟩
  · have hg : m.getD i 0 = z := by simp [hz]
    refine ⟨fun e => ⟨h1, fun x y hxy => ?_⟩, fun e => ⟨i + 1, ⟨by rw [w64 (by omega) (by omega)]; simp, ?_⟩, by omega, by omega⟩⟩
    · obtain ⟨⟨k1, k2⟩, k3, _⟩ := cell_of ha.1 hc.1 hxy
      have k4 := k3 b u v
      have k5 := num_range (a := a) (b := b) (c := c) (x := x + u) (y := y + v) (by omega) (by omega)
      refine call_of (s_sadd _ _ _ _ (by omega) (by omega) (by omega) (by omega)) rfl (by simp) ?_
      try simp -dsimp
      try (first | exact fp_one (by decide) | refine fp_and (by decide) ?_)
      refine call_of (s_snumber _ _ _ _ _ ha hb hc (by omega) (by omega)) rfl (by simp) ?_
      try simp -dsimp
      try (first | exact fp_one (by decide) | refine fp_and (by decide) ?_)
      simp only [setN_len]
      refine ⟨⟨k5.1, by omega⟩, by omega, by decide, i + 1, ⟨by rw [w64 (by omega) (by omega)]; simp, ?_⟩, by omega, by omega⟩
      simp only [ovS, setN, hg, decide_eq_true e, if_true, k4]
    · simp only [ovS, setN, hg, decide_eq_false e, if_false, Bool.false_eq_true]
  · rw [show i = p.length by omega]
end Go.Proofs.YtihkjljafjhniaaEv
namespace Go.Proofs.YtihkjljafjhniaaEv
open Go Go.Proofs
set_option maxRecDepth 10000
theorem lf_one {a : Int} (ha : 0 < a) : lstep (0, 0, 0) (a, 0) = (a, 0, 0) ∧ lstepS (0, 0, 0) (a, 0) = (a, 0, 0) := by
  have h : (a.natAbs : Int) = a := by omega
  simp [lstep, lstepS, eu, h]
theorem eu_two {a b c : Int} (hc : 0 < c) : eu c.natAbs (0, 0) (b, c) = ((b, c), (0, 0)) := by
  have h := eu_step (h := (0, 0)) (v := (b, c)) (show c ≠ 0 by omega)
  simp only at h
  rw [h]
  simp [eu]
theorem lf_two {a b c : Int} (ha : 0 < a) (hc : 0 < c) : lstep (a, 0, 0) (b, c) = (a, b, c) ∧ lstepS (a, 0, 0) (b, c) = (a, b % a, c) := by
  have h : (a.natAbs : Int) = a := by omega
  simp only [lstep, lstepS, eu_two (a := a) (b := b) hc, Int.gcd_zero_right, h, if_pos ha, and_self]
theorem lf_basis {a b c : Int} (ha : 0 < a) (hc : 0 < c) : lfold [(a, 0), (b, c)] = (a, b, c) ∧ lfoldS [(a, 0), (b, c)] = (a, b % a, c) := by
  simp only [lfold, lfoldS, List.foldl_cons, List.foldl_nil, lf_one ha, lf_two ha hc, and_self]
theorem take2 {α : Type} (x y : α) (P : List α → Prop) (h0 : P []) (h1 : P [x]) (h2 : P [x, y]) : ∀ k, P (([x, y] : List α).take k)
  | 0 => h0
  | 1 => h1
  | k + 2 => by simpa using h2
theorem ls_basis {a b c : Int} (ha : 1 ≤ a ∧ a ≤ 64) (hb : 0 ≤ b ∧ b < a) (hc : 1 ≤ c ∧ c ≤ 64) : lsmall [(a, 0), (b, c)] ∧ lsmallS [(a, 0), (b, c)] := by
  have hv : ∀ v ∈ ([(a, 0), (b, c)] : List (Int × Int)), smallV 1000000 v := by
    intro v hv
    simp only [List.mem_cons, List.not_mem_nil, or_false] at hv
    rcases hv with rfl | rfl <;> exact ⟨by simp only; omega, by simp only; omega⟩
  have h1 := lf_one (a := a) (by omega)
  have h2 := lf_basis (a := a) (b := b) (c := c) (by omega) (by omega)
  have h3 : b % a = b := Int.emod_eq_of_lt hb.1 hb.2
  refine ⟨⟨hv, take2 _ _ (fun l => smallV 1000000 (lfold l).2 ∧ (lfold l).1.natAbs ≤ 1000000) ?_ ?_ ?_⟩, hv, take2 _ _ (fun l => smallV 1000000 (lfoldS l).2 ∧ (lfoldS l).1.natAbs ≤ 1000000) ?_ ?_ ?_⟩
  · simp [lfold, smallV]
  · simp only [lfold, List.foldl_cons, List.foldl_nil, h1.1, smallV]; omega
  · rw [h2.1]; simp only [smallV]; omega
  · simp [lfoldS, smallV]
  · simp only [lfoldS, List.foldl_cons, List.foldl_nil, h1.2, smallV]; omega
  · rw [h2.2]; simp only [smallV]; omega
theorem s_latticeOf_basis (a b c : Int) (ha : 1 ≤ a ∧ a ≤ 64) (hb : 0 ≤ b ∧ b < a) (hc : 1 ≤ c ∧ c ≤ 64) : Sp Try.prog 150 [.v (vvs [(a, 0), (b, c)])] (aL a b c) [] := by
  have h := s_latticeOf [(a, 0), (b, c)] (by simp) (ls_basis ha hb hc).1 (by rw [(lf_basis (by omega) (by omega)).1]; simp only; omega)
  rw [(lf_basis (by omega) (by omega)).1] at h
  simp only [lfin, if_neg (show ¬ c < 0 by omega), Int.emod_eq_of_lt hb.1 hb.2] at h
  exact h
theorem s_hermite_basis (a b c : Int) (ha : 1 ≤ a ∧ a ≤ 64) (hb : 0 ≤ b ∧ b < a) (hc : 1 ≤ c ∧ c ≤ 64) : Sp Try.prog 196 [.v (vvs [(a, 0), (b, c)])] (aL a b c) [] := by
  have h := s_hermite [(a, 0), (b, c)] (by simp) (ls_basis ha hb hc).2 (by rw [(lf_basis (by omega) (by omega)).2]; simp only; omega)
  rw [(lf_basis (by omega) (by omega)).2] at h
  simp only [lfin, if_neg (show ¬ c < 0 by omega), Int.emod_eq_of_lt hb.1 hb.2] at h
  exact h
theorem s_sbasisL (a b c : Int) : Sp Try.prog 195 [aL a b c] (.v (.sl 2 [.ag [.int .i64 a, .int .i64 0], .ag [.int .i64 b, .int .i64 c]])) [] := s_sbasis a b c
theorem s_image1 (a b c : Int) (ha : 1 ≤ a ∧ a ≤ 64) (hb : 0 ≤ b ∧ b < a) (hc : 1 ≤ c ∧ c ≤ 64) : Sp Try.prog 144 [aM 1 0 0 1, aL a b c] (aL a b c) [] := by
  refine sp_of (m := no) mixed Try.func144 k144 ?_
  simp -dsimp [q]
  refine call_of (s_sbasisL a b c) rfl (by simp) ?_
  try simp -dsimp
  try (first | exact fp_one (by decide) | refine fp_and (by decide) ?_)
  refine call_of (s_sapply 1 0 0 1 a 0 (by decide) ⟨by omega, by omega⟩) rfl (by simp) ?_
  try simp -dsimp
  try (first | exact fp_one (by decide) | refine fp_and (by decide) ?_)
  refine call_of (s_sapply 1 0 0 1 b c (by decide) ⟨by omega, by omega⟩) rfl (by simp) ?_
  try simp -dsimp
  try (first | exact fp_one (by decide) | refine fp_and (by decide) ?_)
  refine call_of (s_hermite_basis a b c ha hb hc) rfl (by simp) ?_
  try simp -dsimp
  try (first | exact fp_one (by decide) | refine fp_and (by decide) ?_)
abbrev mvI (a b c u v : Int) (l : List Int) (n : Nat) : List Int := (List.range n).map fun j => l.getD (mv a b c (-u) (-v) j) 0
theorem mvI_take {a b c u v : Int} {l : List Int} {n i : Nat} (hi : i < n) : (mvI a b c u v l n).take (i + 1) = (mvI a b c u v l n).take i ++ [l.getD (mv a b c (-u) (-v) i) 0] := by
  rw [List.take_add_one]
  simp [mvI, List.getElem?_range hi]
theorem mvI_len {a b c u v : Int} {l : List Int} {n : Nat} : (mvI a b c u v l n).length = n := by simp [mvI]
theorem s_move1 (f a b c u v : Int) (l : List Int) (hf : okP f a b c l = true) (hu : u.natAbs ≤ 1000) (hv : v.natAbs ≤ 1000) : Sp Try.prog 81 [aP f a b c l, aG 1 0 0 1 u v] (aP f a b c (mvI a b c u v l l.length)) [] := by
  obtain ⟨_, h2, h3, _⟩ := okP_spec.1 hf
  obtain ⟨ha, hc, hb, hac⟩ := okL_spec.1 h2
  have h1 := ac_pos ha.1 hc.1
  have hn := nat_n ha.1 hc.1 h3
  refine sp_of (m := no) mixed Try.func81 k81 ?_
  simp -dsimp [q]
  refine call_of (s_basis a b c) rfl (by simp) ?_
  try simp -dsimp
  try (first | exact fp_one (by decide) | refine fp_and (by decide) ?_)
  refine call_of (s_apply 1 0 0 1 a 0 (by decide) ⟨by omega, by omega⟩) rfl (by simp) ?_
  try simp -dsimp
  try (first | exact fp_one (by decide) | refine fp_and (by decide) ?_)
  refine call_of (s_apply 1 0 0 1 b c (by decide) ⟨by omega, by omega⟩) rfl (by simp) ?_
  try simp -dsimp
  try (first | exact fp_one (by decide) | refine fp_and (by decide) ?_)
  refine call_of (s_latticeOf_basis a b c ha hb hc) rfl (by simp) ?_
  try simp -dsimp
  try (first | exact fp_one (by decide) | refine fp_and (by decide) ?_)
  refine call_of (s_ginv1 u v (by omega) (by omega)) rfl (by simp) ?_
  try simp -dsimp
  try (first | exact fp_one (by decide) | refine fp_and (by decide) ?_)
  refine call_of (s_cells a b c ha hc) rfl (by simp) ?_
  try simp -dsimp
  try (first | exact fp_one (by decide) | refine fp_and (by decide) ?_)
  refine awp_it (false :: false :: true :: false :: true :: false :: false :: true :: true :: false :: false :: false :: false :: false :: false :: false :: false :: false :: false :: false :: false :: false :: false :: false :: false :: false :: false :: false :: false :: false :: false :: false :: false :: false :: true :: true :: true :: []) (fun i : Nat => [(36, vi i)]) (fun i => match i with | 0 => [] | i + 1 => [(2, .box [vi f, vi a, vi b, vi c, .sli 5]), (5, .row 0 2 (is ((mvI a b c u v l l.length).take (i + 1))))]) (fun i => i ≤ l.length) (fun i => l.length - i) 0 ?_
  intro s0 e
  simp -dsimp at e
  subst e
  refine ⟨?_, ?_⟩
  · simp
  intro i hi
  cases i with
  | zero =>
    simp -dsimp [cellsL_len, hn]
    refine ⟨fun _ => ⟨by omega, fun x y hxy => ?_⟩, by rintro rfl; simp at h3; omega⟩
    obtain ⟨⟨k1, k2⟩, k3, _⟩ := cell_of ha.1 hc.1 hxy
    have k4 := k3 b (-u) (-v)
    have ht := mvI_take (a := a) (b := b) (c := c) (u := u) (v := v) (l := l) (show 0 < l.length by omega)
    simp only [List.take_zero, List.nil_append] at ht
    rw [k4] at ht
    refine call_of (s_gapply 1 0 0 1 (-u) (-v) x y (by decide) ⟨by omega, by omega⟩ ⟨by omega, by omega⟩) rfl (by simp) ?_
    try simp -dsimp
    try (first | exact fp_one (by decide) | refine fp_and (by decide) ?_)
    refine call_of (s_at f a b c (x + -u) (y + -v) l hf (by omega) (by omega)) rfl (by simp) ?_
    try simp -dsimp
    try (first | exact fp_one (by decide) | refine fp_and (by decide) ?_)
    refine ⟨1, ⟨by rw [w64 (by omega) (by omega)]; simp, ?_⟩, by omega, by omega⟩
    simp [ht]
  | succ i =>
    simp -dsimp [cellsL_len, hn]
    refine ⟨fun h5 => ⟨⟨by omega, h5⟩, by omega, fun x y hxy => ?_⟩, fun h5 => ?_⟩
    · obtain ⟨⟨k1, k2⟩, k3, _⟩ := cell_of ha.1 hc.1 hxy
      have k4 := k3 b (-u) (-v)
      have ht := mvI_take (a := a) (b := b) (c := c) (u := u) (v := v) (l := l) (show i + 1 < l.length by omega)
      rw [k4] at ht
      refine call_of (s_gapply 1 0 0 1 (-u) (-v) x y (by decide) ⟨by omega, by omega⟩ ⟨by omega, by omega⟩) rfl (by simp) ?_
      try simp -dsimp
      try (first | exact fp_one (by decide) | refine fp_and (by decide) ?_)
      refine call_of (s_at f a b c (x + -u) (y + -v) l hf (by omega) (by omega)) rfl (by simp) ?_
      try simp -dsimp
      try (first | exact fp_one (by decide) | refine fp_and (by decide) ?_)
      refine ⟨⟨by omega, by omega⟩, by decide, i + 2, ⟨by rw [w64 (by omega) (by omega)]; simp; omega, ?_⟩, by omega, by omega⟩
      simp [ht]
    · rw [List.take_of_length_le (by rw [mvI_len]; omega)]
theorem mvS_eq {a b c u v : Int} {l : List Int} (ha : 0 < a) (hc : 0 < c) (hl : (l.length : Int) = a * c) : setN (fun _ => true) (mv a b c u v) (fun k => l.getD k 0) (List.replicate l.length 0) l.length = mvI a b c u v l l.length := by
  apply List.ext_getElem?
  intro j
  by_cases hj : j < l.length
  · have h1 : mv a b c (-u) (-v) j < l.length := by have := mv_lt (b := b) (u := -u) (v := -v) ha hc j; omega
    rw [setN_get (p := fun _ => true) (i := mv a b c (-u) (-v) j) (m := l.length) (by simpa using hj) h1 (fun k hk => mv_iff ha hc (by omega) (by omega)) l.length (Nat.le_refl _)]
    simp [h1, hj, mvI, List.getElem?_range hj]
  · rw [List.getElem?_eq_none (by rw [setN_len]; simp; omega), List.getElem?_eq_none (by rw [mvI_len]; omega)]
theorem s_smove1 (f a b c u v : Int) (l : List Int) (hf : okP f a b c l = true) (hu : u.natAbs ≤ 1000) (hv : v.natAbs ≤ 1000) : Sp Try.prog 74 [aP f a b c l, aG 1 0 0 1 u v] (aP f a b c (mvI a b c u v l l.length)) [] := by
  obtain ⟨_, h2, h3, _⟩ := okP_spec.1 hf
  obtain ⟨ha, hc, hb, hac⟩ := okL_spec.1 h2
  have h1 := ac_pos ha.1 hc.1
  have hn := nat_n ha.1 hc.1 h3
  rw [← mvS_eq (by omega) (by omega) h3]
  refine sp_of (m := no) mixed Try.func74 k74 ?_
  simp -dsimp [q]
  refine call_of (s_image1 a b c ha hb hc) rfl (by simp) ?_
  try simp -dsimp
  try (first | exact fp_one (by decide) | refine fp_and (by decide) ?_)
  refine call_of (s_scells a b c ha hc) rfl (by simp) ?_
  try simp -dsimp
  try (first | exact fp_one (by decide) | refine fp_and (by decide) ?_)
  simp only [cellsL_len, hn]
  refine ⟨by omega, by decide, ?_⟩
  refine awp_it (false :: false :: true :: true :: true :: true :: true :: true :: true :: []) (fun i : Nat => [(8, vi i)]) (fun i => [(6, .row 0 2 (is (setN (fun _ => true) (mv a b c u v) (fun k => l.getD k 0) (List.replicate l.length 0) i)))]) (fun i => i ≤ l.length) (fun i => l.length - i) 0 ?_
  intro s0 e
  simp -dsimp at e
  subst e
  refine ⟨?_, ?_⟩
  · simp [setN]
  intro i hi
  simp -dsimp [setN_len, cellsL_len, hn]
  refine ⟨fun h5 => ⟨by omega, fun x y hxy => ?_⟩, fun h5 => ?_⟩
  · obtain ⟨⟨k1, k2⟩, k3, _⟩ := cell_of ha.1 hc.1 hxy
    have k4 := k3 b u v
    have k5 := num_range (a := a) (b := b) (c := c) (x := x + u) (y := y + v) (by omega) (by omega)
    refine call_of (s_sgapply 1 0 0 1 u v x y (by decide) ⟨by omega, by omega⟩ ⟨by omega, by omega⟩) rfl (by simp) ?_
    try simp -dsimp
    try (first | exact fp_one (by decide) | refine fp_and (by decide) ?_)
    refine call_of (s_snumber _ _ _ _ _ ha hb hc (by omega) (by omega)) rfl (by simp) ?_
    try simp -dsimp
    try (first | exact fp_one (by decide) | refine fp_and (by decide) ?_)
    refine ⟨h5, fun z hz => ?_⟩
    simp only [setN_len, List.length_replicate]
    refine ⟨⟨by omega, by omega⟩, by omega, by decide, i + 1, ⟨by rw [w64 (by omega) (by omega)]; simp, ?_⟩, by omega, by omega⟩
    simp [setN, k4, hz]
  · rw [show i = l.length by omega]
theorem s_equal (xs ys : List Int) (hx : xs.length ≤ 1048576) : Sp Try.prog 80 [.v (vis xs), .v (vis ys)] (vb (decide (xs = ys))) [] := by
  refine sp_of (m := no) mixed Try.func80 k80 ?_
  simp -dsimp [q]
  refine ⟨fun h e => h (by rw [e]), fun hl => ?_⟩
  refine awp_it (true :: true :: false :: false :: false :: false :: false :: false :: false :: false :: false :: false :: true :: true :: []) (fun i : Nat => [(13, vi i)]) (fun i => []) (fun i => i ≤ xs.length ∧ xs.take i = ys.take i) (fun i => xs.length - i) 0 ?_
  intro s0 e
  simp -dsimp at e
  subst e
  refine ⟨?_, ?_⟩
  · simp
  intro i hi
  simp -dsimp
  obtain ⟨hi, ht⟩ := hi
  refine ⟨fun h1 => ⟨h1, fun a ha => ⟨by omega, fun b hb => ⟨fun hn e => ?_, fun e => ⟨i + 1, by rw [w64 (by omega) (by omega)]; simp, ⟨by omega, ?_⟩, by omega⟩⟩⟩⟩, fun h1 => ?_⟩
  · subst e
    rw [ha] at hb
    cases hb
    exact hn rfl
  · subst e
    rw [List.take_add_one, List.take_add_one, ht, ha, hb]
  · have h2 : i = xs.length := by omega
    subst h2
    rw [List.take_length, List.take_of_length_le (by omega)] at ht
    exact ht
theorem s_ssame (xs ys : List Int) (hx : xs.length ≤ 1048576) : Sp Try.prog 143 [.v (vis xs), .v (vis ys)] (vb (decide (xs = ys))) [] := by
  refine sp_of (m := no) mixed Try.func143 k143 ?_
  simp -dsimp [q]
  refine ⟨fun h e => h (by rw [e]), fun hl => ?_⟩
  refine awp_it (true :: true :: false :: false :: false :: true :: []) (fun i : Nat => [(5, vi i)]) (fun i => []) (fun i => i ≤ xs.length ∧ xs.take i = ys.take i) (fun i => xs.length - i) 0 ?_
  intro s0 e
  simp -dsimp at e
  subst e
  refine ⟨?_, ?_⟩
  · simp
  intro i hi
  simp -dsimp
  obtain ⟨hi, ht⟩ := hi
  refine ⟨fun h1 => ⟨h1, fun a ha => ⟨by omega, fun b hb => ⟨fun hn e => ?_, fun e => ⟨i + 1, by rw [w64 (by omega) (by omega)]; simp, ⟨by omega, ?_⟩, by omega⟩⟩⟩⟩, fun h1 => ?_⟩
  · subst e
    rw [ha] at hb
    cases hb
    exact hn rfl
  · subst e
    rw [List.take_add_one, List.take_add_one, ht, ha, hb]
  · have h2 : i = xs.length := by omega
    subst h2
    rw [List.take_length, List.take_of_length_le (by omega)] at ht
    exact ht
theorem cdec_eq (p : Prop) [Decidable p] : cdec p = decide p := by
  by_cases h : p
  · rw [decide_eq_true h, cdec_true.2 h]
  · rw [decide_eq_false h, cdec_false.2 h]
theorem s_sameCells (f a b c : Int) (l : List Int) (f' a' b' c' : Int) (l' : List Int) : Sp Try.prog 78 [aP f a b c l, aP f' a' b' c' l'] (vb (decide (f = f' ∧ a = a' ∧ b = b' ∧ c = c'))) [] := by
  refine sp_of (m := no) mixed Try.func78 k78 ?_
  simp -dsimp [q, cdec_eq]
  by_cases h : f = f'
  · simp [h]
  · simp [h]
theorem s_ssameP (f a b c : Int) (l : List Int) (f' a' b' c' : Int) (l' : List Int) (hl : l.length ≤ 1048576) : Sp Try.prog 73 [aP f a b c l, aP f' a' b' c' l'] (vb (decide (f = f' ∧ (a = a' ∧ b = b' ∧ c = c') ∧ l = l'))) [] := by
  refine sp_of (m := no) mixed Try.func73 k73 ?_
  simp -dsimp [q, cdec_eq]
  by_cases h1 : f = f'
  case neg => simp [h1]
  by_cases h2 : a = a' ∧ b = b' ∧ c = c'
  case neg =>
    refine ⟨fun _ => ⟨fun e1 e2 e3 => absurd ⟨e1, e2, e3⟩ h2, fun _ => ?_⟩, fun e => absurd h1 e⟩
    exact fun _ e1 e2 e3 => absurd ⟨e1, e2, e3⟩ h2
  obtain ⟨rfl, rfl, rfl⟩ := h2
  subst h1
  refine ⟨fun _ => ⟨fun _ _ _ => ?_, fun h => absurd rfl (h rfl rfl)⟩, fun e => absurd rfl e⟩
  refine call_of (s_ssame l l' hl) rfl (by simp) ?_
  try simp -dsimp
  try (first | exact fp_one (by decide) | refine fp_and (by decide) ?_)
/-! the search -/
def fR : Option (Int × Int) → Int × Int × Int
  | some t => (t.1, t.2, 0)
  | none => (0, 0, 4)
def fF (a b c : Int) (l l' : List Int) : Option (Int × Int) := (cellsL c.toNat a.toNat).find? fun t => decide (mvI a b c t.1 t.2 l l.length = l')
theorem find_hit {α : Type} {l : List α} {p : α → Bool} {i : Nat} {z : α} (hz : l[i]? = some z) (hp : p z = true) (hn : ∀ x ∈ l.take i, p x = false) : l.find? p = some z := by
  obtain ⟨hi, rfl⟩ := List.getElem?_eq_some_iff.1 hz
  refine List.find?_eq_some_iff_getElem.2 ⟨hp, i, hi, rfl, fun j hj => ?_⟩
  simp [hn l[j] (List.mem_take_iff_getElem.2 ⟨j, by omega, rfl⟩)]
theorem find_miss {α : Type} {l : List α} {p : α → Bool} {i : Nat} (hi : l.length ≤ i) (hn : ∀ x ∈ l.take i, p x = false) : l.find? p = none := by
  rw [List.take_of_length_le hi] at hn
  exact List.find?_eq_none.2 (fun x hx => by simp [hn x hx])
theorem mem_take_succ {α : Type} {l : List α} {i : Nat} {z x : α} (hz : l[i]? = some z) (hx : x ∈ l.take (i + 1)) : x ∈ l.take i ∨ x = z := by
  rw [List.take_add_one, hz] at hx
  simpa using hx
theorem s_find (f a b c : Int) (l l' : List Int) (hf : okP f a b c l = true) (hf' : okP f a b c l' = true) (hl : l.length ≤ 1048576) (hl' : l'.length ≤ 1048576) : Sp Try.prog 17 [aP f a b c l, aP f a b c l'] (.tu [aV (fR (fF a b c l l')).1 (fR (fF a b c l l')).2.1, vi (fR (fF a b c l l')).2.2]) [] := by
  obtain ⟨_, h2, h3, _⟩ := okP_spec.1 hf
  obtain ⟨ha, hc, hb, hac⟩ := okL_spec.1 h2
  have h1 := ac_pos ha.1 hc.1
  have hn := nat_n ha.1 hc.1 h3
  have w1 := s_isP f a b c l hl
  have w2 := s_isP f a b c l' hl'
  have w3 := s_sameCells f a b c l f a b c l'
  rw [hf] at w1
  rw [hf'] at w2
  simp only [and_self, decide_true] at w3
  refine sp_of (m := no) mixed Try.func17 k17 ?_
  simp -dsimp [q]
  refine call_of (w1) rfl (by simp) ?_
  try simp -dsimp
  try (first | exact fp_one (by decide) | refine fp_and (by decide) ?_)
  refine call_of (w2) rfl (by simp) ?_
  try simp -dsimp
  try (first | exact fp_one (by decide) | refine fp_and (by decide) ?_)
  refine call_of (w3) rfl (by simp) ?_
  try simp -dsimp
  try (first | exact fp_one (by decide) | refine fp_and (by decide) ?_)
  refine call_of (s_cells a b c ha hc) rfl (by simp) ?_
  try simp -dsimp
  try (first | exact fp_one (by decide) | refine fp_and (by decide) ?_)
  refine awp_it (false :: false :: true :: true :: true :: false :: false :: false :: false :: false :: false :: false :: false :: false :: false :: false :: false :: false :: false :: false :: false :: false :: false :: false :: true :: true :: true :: []) (fun i : Nat => [(26, vi i)]) (fun i => []) (fun i => i ≤ l.length ∧ ∀ t ∈ (cellsL c.toNat a.toNat).take i, decide (mvI a b c t.1 t.2 l l.length = l') = false) (fun i => l.length - i) 0 ?_
  intro s0 e
  simp -dsimp at e
  subst e
  refine ⟨?_, ?_⟩
  · simp
  rintro i ⟨hi, hno⟩
  simp -dsimp [cellsL_len, hn]
  refine ⟨fun h5 => ⟨by omega, fun x y hxy => ?_⟩, fun h5 => ?_⟩
  · obtain ⟨⟨k1, k2⟩, _, _⟩ := cell_of ha.1 hc.1 hxy
    refine call_of (s_unit) rfl (by simp) ?_
    try simp -dsimp
    try (first | exact fp_one (by decide) | refine fp_and (by decide) ?_)
    refine call_of (s_move1 f a b c x y l hf (by omega) (by omega)) rfl (by simp) ?_
    try simp -dsimp
    try (first | exact fp_one (by decide) | refine fp_and (by decide) ?_)
    refine call_of (s_equal _ _ (by simp; omega)) rfl (by simp) ?_
    try simp -dsimp
    try (first | exact fp_one (by decide) | refine fp_and (by decide) ?_)
    refine ⟨fun e => ?_, fun e => ⟨i + 1, by rw [w64 (by omega) (by omega)]; simp, ⟨by omega, fun x' y' ht => ?_⟩, by omega⟩⟩
    · have : fF a b c l l' = some (x, y) := find_hit hxy (decide_eq_true e) hno
      simp [this, fR]
    · rcases mem_take_succ hxy ht with h | h
      · simpa using hno _ h
      · cases h; exact e
  · have : fF a b c l l' = none := find_miss (by rw [cellsL_len, hn]; exact h5) hno
    simp [this, fR]
theorem s_sfind (f a b c : Int) (l l' : List Int) (hf : okP f a b c l = true) (hf' : okP f a b c l' = true) (hl : l.length ≤ 1048576) (hl' : l'.length ≤ 1048576) : Sp Try.prog 15 [aP f a b c l, aP f a b c l'] (.tu [aV (fR (fF a b c l l')).1 (fR (fF a b c l l')).2.1, vi (fR (fF a b c l l')).2.2]) [] := by
  obtain ⟨_, h2, h3, _⟩ := okP_spec.1 hf
  obtain ⟨ha, hc, hb, hac⟩ := okL_spec.1 h2
  have h1 := ac_pos ha.1 hc.1
  have hn := nat_n ha.1 hc.1 h3
  have w1 := s_sisP f a b c l hl
  have w2 := s_sisP f a b c l' hl'
  rw [hf] at w1
  rw [hf'] at w2
  refine sp_of (m := no) mixed Try.func15 k15 ?_
  simp -dsimp [q, cdec_eq]
  refine call_of (w1) rfl (by simp) ?_
  try simp -dsimp
  try (first | exact fp_one (by decide) | refine fp_and (by decide) ?_)
  refine call_of (w2) rfl (by simp) ?_
  try simp -dsimp
  try (first | exact fp_one (by decide) | refine fp_and (by decide) ?_)
  refine call_of (s_scells a b c ha hc) rfl (by simp) ?_
  try simp -dsimp
  try (first | exact fp_one (by decide) | refine fp_and (by decide) ?_)
  refine awp_it (false :: false :: true :: true :: true :: false :: true :: true :: []) (fun i : Nat => [(7, vi i)]) (fun i => []) (fun i => i ≤ l.length ∧ ∀ t ∈ (cellsL c.toNat a.toNat).take i, decide (mvI a b c t.1 t.2 l l.length = l') = false) (fun i => l.length - i) 0 ?_
  intro s0 e
  simp -dsimp at e
  subst e
  refine ⟨?_, ?_⟩
  · simp
  rintro i ⟨hi, hno⟩
  simp -dsimp [cellsL_len, hn]
  refine ⟨fun h5 => ?_, fun h5 => ?_⟩
  · refine call_of (s_sunit) rfl (by simp) ?_
    try simp -dsimp
    try (first | exact fp_one (by decide) | refine fp_and (by decide) ?_)
    simp only [cellsL_len, hn]
    refine ⟨by omega, fun x y hxy => ?_⟩
    obtain ⟨⟨k1, k2⟩, _, _⟩ := cell_of ha.1 hc.1 hxy
    refine call_of (s_smove1 f a b c x y l hf (by omega) (by omega)) rfl (by simp) ?_
    try simp -dsimp
    try (first | exact fp_one (by decide) | refine fp_and (by decide) ?_)
    refine call_of (s_ssameP f a b c _ f a b c l' (by simp; omega)) rfl (by simp) ?_
    try simp -dsimp
    try (first | exact fp_one (by decide) | refine fp_and (by decide) ?_)
    refine ⟨fun e => ⟨by rw [cellsL_len, hn]; exact h5, fun x' y' hxy' => ?_⟩, fun e => ⟨i + 1, by rw [w64 (by omega) (by omega)]; simp, ⟨by omega, fun x' y' ht => ?_⟩, by omega⟩⟩
    · rw [hxy] at hxy'
      cases hxy'
      have : fF a b c l l' = some (x, y) := find_hit hxy (decide_eq_true e) hno
      simp [this, fR]
    · rcases mem_take_succ hxy ht with h | h
      · simpa using hno _ h
      · cases h; exact e
  · have : fF a b c l l' = none := find_miss (by rw [cellsL_len, hn]; exact h5) hno
    simp [this, fR]
/-! what is not to be searched -/
theorem s_find_bad (f a b c : Int) (l : List Int) (f' a' b' c' : Int) (l' : List Int) (hb : ¬ (okP f a b c l = true ∧ okP f' a' b' c' l' = true)) (hl : l.length ≤ 1048576) (hl' : l'.length ≤ 1048576) : Sp Try.prog 17 [aP f a b c l, aP f' a' b' c' l'] (.tu [aV 0 0, vi 1]) [] := by
  have w1 := s_isP f a b c l hl
  have w2 := s_isP f' a' b' c' l' hl'
  refine sp_of (m := no) mixed Try.func17 k17 ?_
  simp -dsimp [q]
  cases h1 : okP f a b c l
  · rw [h1] at w1
    refine call_of (w1) rfl (by simp) ?_
    try simp -dsimp
    try (first | exact fp_one (by decide) | refine fp_and (by decide) ?_)
  · rw [h1] at w1 hb
    refine call_of (w1) rfl (by simp) ?_
    try simp -dsimp
    try (first | exact fp_one (by decide) | refine fp_and (by decide) ?_)
    have h2 : okP f' a' b' c' l' = false := by simpa using hb
    rw [h2] at w2
    refine call_of (w2) rfl (by simp) ?_
    try simp -dsimp
    try (first | exact fp_one (by decide) | refine fp_and (by decide) ?_)
theorem s_sfind_bad (f a b c : Int) (l : List Int) (f' a' b' c' : Int) (l' : List Int) (hb : ¬ (okP f a b c l = true ∧ okP f' a' b' c' l' = true)) (hl : l.length ≤ 1048576) (hl' : l'.length ≤ 1048576) : Sp Try.prog 15 [aP f a b c l, aP f' a' b' c' l'] (.tu [aV 0 0, vi 1]) [] := by
  have w1 := s_sisP f a b c l hl
  have w2 := s_sisP f' a' b' c' l' hl'
  refine sp_of (m := no) mixed Try.func15 k15 ?_
  simp -dsimp [q]
  cases h1 : okP f a b c l
  · rw [h1] at w1
    refine call_of (w1) rfl (by simp) ?_
    try simp -dsimp
    try (first | exact fp_one (by decide) | refine fp_and (by decide) ?_)
  · rw [h1] at w1 hb
    refine call_of (w1) rfl (by simp) ?_
    try simp -dsimp
    try (first | exact fp_one (by decide) | refine fp_and (by decide) ?_)
    have h2 : okP f' a' b' c' l' = false := by simpa using hb
    rw [h2] at w2
    refine call_of (w2) rfl (by simp) ?_
    try simp -dsimp
    try (first | exact fp_one (by decide) | refine fp_and (by decide) ?_)
theorem s_find_far (f a b c : Int) (l : List Int) (f' a' b' c' : Int) (l' : List Int) (h1 : okP f a b c l = true) (h2 : okP f' a' b' c' l' = true) (h3 : ¬ (f = f' ∧ a = a' ∧ b = b' ∧ c = c')) (hl : l.length ≤ 1048576) (hl' : l'.length ≤ 1048576) : Sp Try.prog 17 [aP f a b c l, aP f' a' b' c' l'] (.tu [aV 0 0, vi 2]) [] := by
  have w1 := s_isP f a b c l hl
  have w2 := s_isP f' a' b' c' l' hl'
  have w3 := s_sameCells f a b c l f' a' b' c' l'
  rw [h1] at w1
  rw [h2] at w2
  rw [decide_eq_false h3] at w3
  refine sp_of (m := no) mixed Try.func17 k17 ?_
  simp -dsimp [q]
  refine call_of (w1) rfl (by simp) ?_
  try simp -dsimp
  try (first | exact fp_one (by decide) | refine fp_and (by decide) ?_)
  refine call_of (w2) rfl (by simp) ?_
  try simp -dsimp
  try (first | exact fp_one (by decide) | refine fp_and (by decide) ?_)
  refine call_of (w3) rfl (by simp) ?_
  try simp -dsimp
  try (first | exact fp_one (by decide) | refine fp_and (by decide) ?_)
theorem s_sfind_far (f a b c : Int) (l : List Int) (f' a' b' c' : Int) (l' : List Int) (h1 : okP f a b c l = true) (h2 : okP f' a' b' c' l' = true) (h3 : ¬ (f = f' ∧ a = a' ∧ b = b' ∧ c = c')) (hl : l.length ≤ 1048576) (hl' : l'.length ≤ 1048576) : Sp Try.prog 15 [aP f a b c l, aP f' a' b' c' l'] (.tu [aV 0 0, vi 2]) [] := by
  have w1 := s_sisP f a b c l hl
  have w2 := s_sisP f' a' b' c' l' hl'
  rw [h1] at w1
  rw [h2] at w2
  refine sp_of (m := no) mixed Try.func15 k15 ?_
  simp -dsimp [q, cdec_eq]
  refine call_of (w1) rfl (by simp) ?_
  try simp -dsimp
  try (first | exact fp_one (by decide) | refine fp_and (by decide) ?_)
  refine call_of (w2) rfl (by simp) ?_
  try simp -dsimp
  try (first | exact fp_one (by decide) | refine fp_and (by decide) ?_)
  exact fun e1 e2 e3 e4 => absurd ⟨e1, e2, e3, e4⟩ h3
end Go.Proofs.YtihkjljafjhniaaEv
namespace Go.Proofs.YtihkjljafjhniaaEv
open Go Go.Proofs
set_option maxRecDepth 10000
set_option maxHeartbeats 2000000
theorem s_reduceAny (a b c x y : Int) (ha : 1 ≤ a ∧ a ≤ 64) (hc : 1 ≤ c ∧ c ≤ 64) : ∃ X, ((0 ≤ X ∧ X < a) ∧ (inC a c (x, y) → X = x)) ∧ Sp Try.prog 170 [aL a b c, aV x y] (aV X (y % c)) [] := by
  refine ⟨(IntKind.i64.wrap (x - IntKind.i64.wrap (IntKind.i64.wrap ((IntKind.i64.wrap (y - y % c)).tdiv c) * b))) % a, ⟨⟨Int.emod_nonneg _ (by omega), Int.emod_lt_of_pos _ (by omega)⟩, fun h => ?_⟩, ?_⟩
  · obtain ⟨h1, h2⟩ := h
    simp only at h1 h2
    rw [Int.emod_eq_of_lt h2.1 h2.2, Int.sub_self, w64 (n := 0) (by omega) (by omega), Int.zero_tdiv, w64 (n := 0) (by omega) (by omega), Int.zero_mul, w64 (n := 0) (by omega) (by omega), Int.sub_zero, w64 (by omega) (by omega), Int.emod_eq_of_lt h1.1 h1.2]
  refine sp_of (m := no) mixed Try.func170 k170 ?_
  simp -dsimp [q]
  refine call_of (s_mod _ _ (by omega)) rfl (by simp) ?_
  try simp -dsimp
  try (first | exact fp_one (by decide) | refine fp_and (by decide) ?_)
  refine ⟨by omega, ?_⟩
  refine call_of (s_mod _ _ (by omega)) rfl (by simp) ?_
  try simp -dsimp
  try (first | exact fp_one (by decide) | refine fp_and (by decide) ?_)
def mulM (m n : M4) : M4 := (m.1 * n.1 + m.2.1 * n.2.2.1, m.1 * n.2.1 + m.2.1 * n.2.2.2, m.2.2.1 * n.1 + m.2.2.2 * n.2.2.1, m.2.2.1 * n.2.1 + m.2.2.2 * n.2.2.2)
def oneM (m : M4) : Prop := (m.1.natAbs ≤ 1 ∧ m.2.1.natAbs ≤ 1) ∧ m.2.2.1.natAbs ≤ 1 ∧ m.2.2.2.natAbs ≤ 1
theorem s_mmul (m n : M4) (hm : oneM m) (hn : oneM n) : Sp Try.prog 250 [aM4 m, aM4 n] (aM4 (mulM m n)) [] := by
  refine sp_of (m := no) mixed Try.func250 k250 ?_
  obtain ⟨⟨m1, m2⟩, m3, m4⟩ := hm
  obtain ⟨⟨n1, n2⟩, n3, n4⟩ := hn
  have h1 := mul_bd m1 n1
  have h2 := mul_bd m2 n3
  have h3 := mul_bd m1 n2
  have h4 := mul_bd m2 n4
  have h5 := mul_bd m3 n1
  have h6 := mul_bd m4 n3
  have h7 := mul_bd m3 n2
  have h8 := mul_bd m4 n4
  simp -dsimp [q]
  rw [w64 (n := m.1 * n.1) (by omega) (by omega), w64 (n := m.2.1 * n.2.2.1) (by omega) (by omega), w64 (n := m.1 * n.2.1) (by omega) (by omega), w64 (n := m.2.1 * n.2.2.2) (by omega) (by omega),
    w64 (n := m.2.2.1 * n.1) (by omega) (by omega), w64 (n := m.2.2.2 * n.2.2.1) (by omega) (by omega), w64 (n := m.2.2.1 * n.2.1) (by omega) (by omega), w64 (n := m.2.2.2 * n.2.2.2) (by omega) (by omega)]
  refine ⟨w64 (by omega) (by omega), w64 (by omega) (by omega), w64 (by omega) (by omega), w64 (by omega) (by omega)⟩
theorem s_smmul (m n : M4) (hm : oneM m) (hn : oneM n) : Sp Try.prog 218 [aM4 m, aM4 n] (aM4 (mulM m n)) [] := by
  refine sp_of (m := no) mixed Try.func218 k218 ?_
  obtain ⟨⟨m1, m2⟩, m3, m4⟩ := hm
  obtain ⟨⟨n1, n2⟩, n3, n4⟩ := hn
  have h1 := mul_bd m1 n1
  have h2 := mul_bd m2 n3
  have h3 := mul_bd m1 n2
  have h4 := mul_bd m2 n4
  have h5 := mul_bd m3 n1
  have h6 := mul_bd m4 n3
  have h7 := mul_bd m3 n2
  have h8 := mul_bd m4 n4
  simp -dsimp [q]
  rw [w64 (n := m.1 * n.1) (by omega) (by omega), w64 (n := m.2.1 * n.2.2.1) (by omega) (by omega), w64 (n := m.1 * n.2.1) (by omega) (by omega), w64 (n := m.2.1 * n.2.2.2) (by omega) (by omega),
    w64 (n := m.2.2.1 * n.1) (by omega) (by omega), w64 (n := m.2.2.2 * n.2.2.1) (by omega) (by omega), w64 (n := m.2.2.1 * n.2.1) (by omega) (by omega), w64 (n := m.2.2.2 * n.2.2.2) (by omega) (by omega)]
  refine ⟨w64 (by omega) (by omega), w64 (by omega) (by omega), w64 (by omega) (by omega), w64 (by omega) (by omega)⟩
def mulG (g h : G6) : G6 := (mulM g.1 h.1, g.1.1 * h.2.1 + g.1.2.1 * h.2.2 + g.2.1, g.1.2.2.1 * h.2.1 + g.1.2.2.2 * h.2.2 + g.2.2)
def redG (a b c : Int) (g : G6) : G6 := (g.1, redX a b c g.2.1 g.2.2, g.2.2 % c)
def memG (a c : Int) (g : G6) : Prop := oneM g.1 ∧ inC a c g.2
theorem s_gmul (g h : G6) (hg : oneM g.1 ∧ g.2.1.natAbs ≤ 1000 ∧ g.2.2.natAbs ≤ 1000) (hh : oneM h.1 ∧ h.2.1.natAbs ≤ 1000 ∧ h.2.2.natAbs ≤ 1000) : Sp Try.prog 241 [aG6 g, aG6 h] (aG6 (mulG g h)) [] := by
  refine sp_of (m := no) mixed Try.func241 k241 ?_
  have wm := s_mmul g.1 h.1 hg.1 hh.1
  obtain ⟨⟨⟨m1, m2⟩, m3, m4⟩, m5, m6⟩ := hg
  obtain ⟨_, n5, n6⟩ := hh
  have h1 := mul_bd m1 n5
  have h2 := mul_bd m2 n6
  have h3 := mul_bd m3 n5
  have h4 := mul_bd m4 n6
  simp -dsimp [q]
  refine call_of (wm) rfl (by simp) ?_
  try simp -dsimp
  try (first | exact fp_one (by decide) | refine fp_and (by decide) ?_)
  refine call_of (s_apply _ _ _ _ _ _ ⟨⟨by omega, by omega⟩, by omega, by omega⟩ ⟨by omega, by omega⟩) rfl (by simp) ?_
  try simp -dsimp
  try (first | exact fp_one (by decide) | refine fp_and (by decide) ?_)
  refine call_of (s_add _ _ _ _ (by omega) (by omega) (by omega) (by omega)) rfl (by simp) ?_
  try simp -dsimp
  try (first | exact fp_one (by decide) | refine fp_and (by decide) ?_)
  exact ⟨rfl, rfl, rfl, rfl, rfl, rfl⟩
theorem s_sgmul (g h : G6) (hg : oneM g.1 ∧ g.2.1.natAbs ≤ 1000 ∧ g.2.2.natAbs ≤ 1000) (hh : oneM h.1 ∧ h.2.1.natAbs ≤ 1000 ∧ h.2.2.natAbs ≤ 1000) : Sp Try.prog 178 [aG6 g, aG6 h] (aG6 (mulG g h)) [] := by
  refine sp_of (m := no) mixed Try.func178 k178 ?_
  have wm := s_smmul g.1 h.1 hg.1 hh.1
  obtain ⟨⟨⟨m1, m2⟩, m3, m4⟩, m5, m6⟩ := hg
  obtain ⟨_, n5, n6⟩ := hh
  have h1 := mul_bd m1 n5
  have h2 := mul_bd m2 n6
  have h3 := mul_bd m3 n5
  have h4 := mul_bd m4 n6
  simp -dsimp [q]
  refine call_of (wm) rfl (by simp) ?_
  try simp -dsimp
  try (first | exact fp_one (by decide) | refine fp_and (by decide) ?_)
  refine call_of (s_sapply _ _ _ _ _ _ ⟨⟨by omega, by omega⟩, by omega, by omega⟩ ⟨by omega, by omega⟩) rfl (by simp) ?_
  try simp -dsimp
  try (first | exact fp_one (by decide) | refine fp_and (by decide) ?_)
  refine call_of (s_sadd _ _ _ _ (by omega) (by omega) (by omega) (by omega)) rfl (by simp) ?_
  try simp -dsimp
  try (first | exact fp_one (by decide) | refine fp_and (by decide) ?_)
  exact ⟨rfl, rfl, rfl, rfl, rfl, rfl⟩
theorem s_gred (a b c : Int) (g : G6) (ha : 1 ≤ a ∧ a ≤ 64) (hb : 0 ≤ b ∧ b < a) (hc : 1 ≤ c ∧ c ≤ 64) (hx : -1000000000 ≤ g.2.1 ∧ g.2.1 ≤ 1000000000) (hy : -1000000000 ≤ g.2.2 ∧ g.2.2 ≤ 1000000000) : Sp Try.prog 240 [aL a b c, aG6 g] (aG6 (redG a b c g)) [] := by
  refine sp_of (m := no) mixed Try.func240 k240 ?_
  simp -dsimp [q]
  refine call_of (s_reduce a b c _ _ ha hb hc hx hy) rfl (by simp) ?_
  try simp -dsimp
  try (first | exact fp_one (by decide) | refine fp_and (by decide) ?_)
  exact ⟨rfl, rfl, rfl, rfl, rfl, rfl⟩
theorem s_sgred (a b c : Int) (g : G6) (ha : 1 ≤ a ∧ a ≤ 64) (hb : 0 ≤ b ∧ b < a) (hc : 1 ≤ c ∧ c ≤ 64) (hx : -1000000000 ≤ g.2.1 ∧ g.2.1 ≤ 1000000000) (hy : -1000000000 ≤ g.2.2 ∧ g.2.2 ≤ 1000000000) : Sp Try.prog 174 [aL a b c, aG6 g] (aG6 (redG a b c g)) [] := by
  refine sp_of (m := no) mixed Try.func174 k174 ?_
  simp -dsimp [q]
  refine call_of (s_sreduce a b c _ _ ha hb hc hx hy) rfl (by simp) ?_
  try simp -dsimp
  try (first | exact fp_one (by decide) | refine fp_and (by decide) ?_)
  exact ⟨rfl, rfl, rfl, rfl, rfl, rfl⟩
abbrev unG : G6 := ((1, 0, 0, 1), 0, 0)
theorem s_sun : Sp Try.prog 177 [] (aG6 unG) [] := by
  refine sp_of (m := no) mixed Try.func177 k177 ?_
  simp -dsimp [q]
  refine call_of (s_sunit) rfl (by simp) ?_
  try simp -dsimp
  try (first | exact fp_one (by decide) | refine fp_and (by decide) ?_)
/-! is it a group? -/
def elG (f a b c : Int) (g : G6) : Bool := pmOk f g.1 && keepL a b c g.1 && decide (0 ≤ g.2.1 ∧ g.2.1 < a) && decide (0 ≤ g.2.2 ∧ g.2.2 < c)
theorem elG_spec {f a b c : Int} (hf : 0 ≤ f ∧ f ≤ 1) {g : G6} (h : elG f a b c g = true) : oneM g.1 ∧ inC a c g.2 := by
  simp only [elG, Bool.and_eq_true, decide_eq_true_eq] at h
  obtain ⟨h1, h2, _⟩ := pm_facts hf h.1.1.1
  exact ⟨⟨⟨h1.1, h1.2⟩, h2.1, h2.2⟩, h.1.2, h.2⟩
def fst (f a b c : Int) (l : List G6) (i : Nat) : Prop := (∀ g ∈ l.take i, elG f a b c g = true) ∧ srt (l.take i)
theorem fst_succ {f a b c : Int} {l : List G6} {i : Nat} {g : G6} (hg : l[i]? = some g) : fst f a b c l (i + 1) ↔ (fst f a b c l i ∧ elG f a b c g = true ∧ ∀ p, 0 < i → l[i - 1]? = some p → ltG p g = true) := by
  unfold fst srt
  have e : l.take (i + 1) = l.take i ++ [g] := by rw [List.take_add_one, hg]; rfl
  rw [e, List.pairwise_append]
  constructor
  · rintro ⟨h1, h2, _, h3⟩
    refine ⟨⟨fun x hx => h1 x (by simp [hx]), h2⟩, h1 g (by simp), fun p hi hp => h3 p ?_ g (by simp)⟩
    exact List.mem_of_getElem? (i := i - 1) (by rw [List.getElem?_take_of_lt (by omega)]; exact hp)
  · rintro ⟨⟨h1, h2⟩, h3, h4⟩
    refine ⟨fun x hx => ?_, h2, by simp, fun x hx y hy => ?_⟩
    · rcases List.mem_append.1 hx with hx | hx
      · exact h1 x hx
      · simp only [List.mem_singleton] at hx; rw [hx]; exact h3
    · simp only [List.mem_singleton] at hy
      subst hy
      obtain ⟨j, hj⟩ := List.getElem?_of_mem hx
      have hji : j < i := by
        have := (List.getElem?_eq_some_iff.1 hj).1
        simp at this; omega
      have hil := (List.getElem?_eq_some_iff.1 hg).1
      obtain ⟨p, hp⟩ : ∃ p, l[i - 1]? = some p := ⟨_, List.getElem?_eq_getElem (show i - 1 < l.length by omega)⟩
      have h5 := h4 _ (by omega) hp
      by_cases ej : j = i - 1
      · subst ej
        rw [List.getElem?_take_of_lt (by omega), hp] at hj
        cases hj
        exact h5
      · exact ltG_trans (srt_get h2 hj (by rw [List.getElem?_take_of_lt (show i - 1 < i by omega)]; exact hp) (by omega)) h5
def prd (a b c : Int) (l : List G6) (i : Nat) : Prop := ∀ g ∈ l.take i, ∀ h ∈ l, redG a b c (mulG g h) ∈ l
def prd1 (a b c : Int) (l : List G6) (g : G6) (j : Nat) : Prop := ∀ h ∈ l.take j, redG a b c (mulG g h) ∈ l
def grp (f a b c : Int) (l : List G6) : Prop := fst f a b c l l.length ∧ unG ∈ l ∧ prd a b c l l.length
theorem fst_mono {f a b c : Int} {l : List G6} {i j : Nat} (h : i ≤ j) (k : fst f a b c l j) : fst f a b c l i := by
  have e : l.take i = (l.take j).take i := by rw [List.take_take, Nat.min_eq_left h]
  unfold fst srt at *
  rw [e]
  exact ⟨fun g hg => k.1 g (List.mem_of_mem_take hg), k.2.sublist (List.take_sublist _ _)⟩
theorem cdec_t {p : Prop} (h : p) : cdec p = true := cdec_true.2 h
theorem cdec_f {p : Prop} (h : ¬ p) : cdec p = false := cdec_false.2 h
theorem fst_new {f a b c : Int} {l : List G6} {i : Nat} {g : G6} (hg : l[i]? = some g) (h : fst f a b c l (i + 1)) : g ∉ l.take i := by
  intro hm
  obtain ⟨j, hj⟩ := List.getElem?_of_mem hm
  have hji : j < i := by
    have := (List.getElem?_eq_some_iff.1 hj).1
    simp at this; omega
  have := srt_get h.2 (i := j) (j := i) (g := g) (k := g) (by rw [List.getElem?_take_of_lt (by omega)] at hj ⊢; exact hj) (by rw [List.getElem?_take_of_lt (by omega)]; exact hg) hji
  rw [ltG_irr] at this
  cases this
theorem s_isGrp (f a b c : Int) (l : List G6) (hf : 0 ≤ f ∧ f ≤ 1) (h : okL a b c = true) (hl : l.length ≤ 1048576) : Sp Try.prog 214 [vi f, aL a b c, .v (vgs l)] (vb (cdec (grp f a b c l))) [] := by
  obtain ⟨ha, hc, hb, _⟩ := okL_spec.1 h
  refine sp_of (m := no) mixed Try.func214 k214 ?_
  have hlen : ((pmL f 81).filter fun m => keepL a b c m).length ≤ 81 := Nat.le_trans (List.length_filter_le _ _) (pmL_len f 81)
  have hcont : ∀ m : M4, Sp Try.prog 169 [.v (vms ((pmL f 81).filter fun m => keepL a b c m)), aM4 m] (vb (pmOk f m && keepL a b c m)) [] := fun m => by
    have w2 := s_contM ((pmL f 81).filter fun m => keepL a b c m) m (by omega)
    have e : decide (m ∈ (pmL f 81).filter fun m => keepL a b c m) = (pmOk f m && keepL a b c m) := by
      obtain ⟨m1, m2, m3, m4⟩ := m
      rw [Bool.eq_iff_iff, decide_eq_true_iff, List.mem_filter, pmL_mem hf, Bool.and_eq_true]
    rw [e] at w2
    exact w2
  have wlm := s_lm f a b c hf ha hb hc
  generalize ((pmL f 81).filter fun m => keepL a b c m) = mats at *
  simp -dsimp [q]
  refine call_of (wlm) rfl (by simp) ?_
  try simp -dsimp
  try (first | exact fp_one (by decide) | refine fp_and (by decide) ?_)
  refine awp_it (false :: false :: true :: false :: true :: false :: false :: true :: true :: false :: false :: false :: false :: false :: false :: false :: false :: false :: false :: true :: true :: true :: []) (fun i : Nat => [(21, vi i)]) (fun i => [(1, .map [] (gE (l.take i)))]) (fun i => i ≤ l.length ∧ fst f a b c l i) (fun i => l.length - i) 0 ?_
  intro s0 e
  simp -dsimp at e
  subst e
  refine ⟨?_, ?_⟩
  · simp [fst, srt]
  rintro i ⟨hi, hfs⟩
  simp -dsimp [-Prod.forall, -Prod.exists]
  refine ⟨fun h1 => ⟨h1, fun g hg => ?_⟩, fun h1 => ?_⟩
  · have hnx := fst_succ (f := f) (a := a) (b := b) (c := c) hg
    have bad : ¬ fst f a b c l (i + 1) → cdec (grp f a b c l) = false := fun hn => cdec_f fun hG => hn (fst_mono (by omega) hG.1)
    have wc := hcont g.1
    by_cases ht : (pmOk f g.1 && keepL a b c g.1) = true
    case neg =>
      rw [show (pmOk f g.1 && keepL a b c g.1) = false by simpa using ht] at wc
      have e := bad (fun hn => ht (by
        have := (hnx.1 hn).2.1
        simp only [elG, Bool.and_eq_true] at this ⊢
        exact this.1.1))
      rw [e]
      refine call_of (wc) rfl (by simp) ?_
      try simp -dsimp
      try (first | exact fp_one (by decide) | refine fp_and (by decide) ?_)
    rw [ht] at wc
    refine call_of (wc) rfl (by simp) ?_
    try simp -dsimp
    try (first | exact fp_one (by decide) | refine fp_and (by decide) ?_)
    obtain ⟨X, ⟨hX, hX2⟩, wr⟩ := s_reduceAny a b c g.2.1 g.2.2 ha hc
    refine call_of (wr) rfl (by simp) ?_
    try simp -dsimp
    try (first | exact fp_one (by decide) | refine fp_and (by decide) ?_)
    have wcell : ∀ (e1 : X = g.2.1) (e2 : g.2.2 % c = g.2.2), elG f a b c g = true := fun e1 e2 => by
      have := Int.emod_nonneg g.2.2 (show c ≠ 0 by omega)
      have := Int.emod_lt_of_pos g.2.2 (show 0 < c by omega)
      unfold elG
      rw [ht, Bool.true_and, Bool.and_eq_true, decide_eq_true_iff, decide_eq_true_iff]
      omega
    have next : fst f a b c l (i + 1) → ∃ y : Nat, (IntKind.i64.wrap ((i : Int) + 1) = y ∧ gE (if ((g.1.1, g.1.2.1, g.1.2.2.1, g.1.2.2.2), g.2.1, g.2.2) ∈ l.take i then l.take i else l.take i ++ [((g.1.1, g.1.2.1, g.1.2.2.1, g.1.2.2.2), g.2.1, g.2.2)]) = gE (l.take y)) ∧ (y ≤ l.length ∧ fst f a b c l y) ∧ l.length - y < l.length - i := fun hn => by
      have hnew : ((g.1.1, g.1.2.1, g.1.2.2.1, g.1.2.2.2), g.2.1, g.2.2) ∉ l.take i := fst_new hg hn
      refine ⟨i + 1, ⟨by rw [w64 (by omega) (by omega)]; simp, ?_⟩, ⟨by omega, hn⟩, by omega⟩
      rw [if_neg hnew, List.take_add_one, hg]
      rfl
    refine ⟨fun e1 e2 => ⟨fun hi0 => ⟨by rw [w64 (by omega) (by omega)]; omega, fun p1 p2 p3 p4 p5 p6 hp => ?_⟩, fun hi0 => ?_⟩, fun hne => ?_⟩
    · rw [w64 (by omega) (by omega), show ((i : Int) - 1).toNat = i - 1 by omega] at hp
      obtain ⟨k, wk, hk⟩ := s_cmpG ((p1, p2, p3, p4), p5, p6) g
      refine call_of (wk) rfl (by simp) ?_
      try simp -dsimp
      try (first | exact fp_one (by decide) | refine fp_and (by decide) ?_)
      refine ⟨fun hk0 => ?_, fun hk0 => ?_⟩
      · refine cdec_false.1 (bad (fun hn => ?_))
        have := (hnx.1 hn).2.2 _ hi0 hp
        rw [hk.1 hk0] at this
        cases this
      · refine next (hnx.2 ⟨hfs, wcell e1 e2, fun p hp0 hp' => ?_⟩)
        rw [hp] at hp'
        cases hp'
        cases hq : ltG ((p1, p2, p3, p4), p5, p6) g with
        | true => rfl
        | false => have := hk.2 hq; omega
    · exact next (hnx.2 ⟨hfs, wcell e1 e2, fun p hp0 _ => by omega⟩)
    · refine cdec_false.1 (bad (fun hn => ?_))
      have he := elG_spec hf (hnx.1 hn).2.1
      exact hne (hX2 he.2) (Int.emod_eq_of_lt he.2.2.1 he.2.2.2)
  · have hi2 : i = l.length := by omega
    subst hi2
    refine call_of (s_unit) rfl (by simp) ?_
    try simp -dsimp
    try (first | exact fp_one (by decide) | refine fp_and (by decide) ?_)
    refine ⟨fun hu hG => hu hG.2.1, fun hu => ?_⟩
    refine awp_it (false :: false :: true :: false :: true :: false :: false :: false :: true :: false :: false :: false :: false :: false :: false :: false :: false :: false :: false :: false :: false :: false :: false :: false :: false :: false :: false :: false :: false :: false :: false :: false :: false :: false :: false :: false :: false :: false :: false :: false :: false :: false :: false :: false :: false :: false :: false :: false :: false :: false :: false :: false :: false :: false :: false :: false :: false :: false :: false :: false :: false :: false :: true :: true :: true :: []) (fun i : Nat => [(64, vi i)]) (fun i => []) (fun i => i ≤ l.length ∧ prd a b c l i) (fun i => l.length - i) 0 ?_
    intro s0 e
    simp -dsimp at e
    subst e
    refine ⟨?_, ?_⟩
    · simp [prd]
    have mem : ∀ (n : Nat) x, l[n]? = some x → oneM x.1 ∧ x.2.1.natAbs ≤ 1000 ∧ x.2.2.natAbs ≤ 1000 := fun n x hx => by
      obtain ⟨m1, m2⟩ := elG_spec hf (hfs.1 x (by rw [List.take_length]; exact List.mem_of_getElem? hx))
      obtain ⟨m3, m4⟩ := m2
      exact ⟨m1, by omega, by omega⟩
    rintro i ⟨hi, hp⟩
    simp -dsimp [-Prod.forall, -Prod.exists]
    refine ⟨fun h1 => ⟨h1, fun g hg => ?_⟩, fun h1 => ?_⟩
    · have mg := mem i g hg
      refine awp_it (false :: false :: true :: false :: true :: false :: false :: false :: true :: false :: false :: false :: true :: false :: false :: false :: false :: false :: false :: false :: false :: false :: false :: false :: false :: false :: false :: false :: false :: false :: false :: false :: false :: false :: false :: false :: false :: false :: false :: false :: false :: false :: false :: false :: false :: false :: false :: false :: false :: false :: false :: false :: false :: false :: false :: false :: false :: false :: false :: false :: false :: false :: true :: true :: true :: false :: false :: false :: true :: true :: true :: []) (fun j : Nat => [(70, vi j)]) (fun j => []) (fun j => j ≤ l.length ∧ prd1 a b c l g j) (fun j => l.length - j) 0 ?_
      intro s0 e
      simp -dsimp at e
      subst e
      refine ⟨?_, ?_⟩
      · simp [prd1]
      rintro j ⟨hj, hq⟩
      simp -dsimp [-Prod.forall, -Prod.exists]
      refine ⟨fun j1 => ⟨j1, fun k hk => ?_⟩, fun j1 => ?_⟩
      · have mk := mem j k hk
        refine call_of (s_gmul g k mg mk) rfl (by simp) ?_
        try simp -dsimp
        try (first | exact fp_one (by decide) | refine fp_and (by decide) ?_)
        obtain ⟨⟨⟨a1, a2⟩, a3, a4⟩, a5, a6⟩ := mg
        obtain ⟨_, b5, b6⟩ := mk
        have q1 := mul_bd a1 b5
        have q2 := mul_bd a2 b6
        have q3 := mul_bd a3 b5
        have q4 := mul_bd a4 b6
        refine call_of (s_gred a b c (mulG g k) ha hb hc (by simp only [mulG]; omega) (by simp only [mulG]; omega)) rfl (by simp) ?_
        try simp -dsimp
        try (first | exact fp_one (by decide) | refine fp_and (by decide) ?_)
        refine ⟨fun hno hG => ?_, fun hyes => ⟨j + 1, by rw [w64 (by omega) (by omega)]; simp, ⟨by omega, ?_⟩, by omega⟩⟩
        · exact hno (hG.2.2 g (by rw [List.take_length]; exact List.mem_of_getElem? hg) k (List.mem_of_getElem? hk))
        · intro x hx
          rcases mem_take_succ hk hx with hx | hx
          · exact hq x hx
          · rw [hx]; exact hyes
      · refine ⟨i + 1, by rw [w64 (by omega) (by omega)]; simp, ⟨by omega, ?_⟩, by omega⟩
        intro x hx y hy
        rcases mem_take_succ hg hx with hx | hx
        · exact hp x hx y hy
        · rw [hx]; exact hq y (by rw [List.take_of_length_le (by omega)]; exact hy)
    · have : i = l.length := by omega
      subst this
      exact ⟨hfs, hu, hp⟩
end Go.Proofs.YtihkjljafjhniaaEv
namespace Go.Proofs.YtihkjljafjhniaaEv
open Go Go.Proofs
set_option maxRecDepth 10000
set_option maxHeartbeats 2000000
theorem pm_count (f : Int) (hf : 0 ≤ f ∧ f ≤ 1) : (pmL f 81).length ≤ 12 := by
  rcases (by omega : f = 0 ∨ f = 1) with rfl | rfl
  · decide +kernel
  · decide +kernel
theorem flat_len {α β : Type} (l : List α) (m : List β) : (l.flatMap fun x => m.map fun y => (x, y)).length = l.length * m.length := by
  induction l with
  | nil => simp
  | cons x l ih => simp [ih, Nat.succ_mul, Nat.add_comm]
theorem fst_len {f a b c : Int} {l : List G6} (hf : 0 ≤ f ∧ f ≤ 1) (ha : 1 ≤ a) (hc : 1 ≤ c) (hac : a * c ≤ 64) (h : fst f a b c l l.length) : l.length ≤ 768 := by
  obtain ⟨h1, h2⟩ := h
  rw [List.take_length] at h1 h2
  have hn : l.Nodup := h2.imp fun {x y} hxy e => by rw [e, ltG_irr] at hxy; cases hxy
  have := pigeon l ((pmL f 81).flatMap fun x => (cl a c).map fun y => (x, y)) hn (fun g hg => by
    have hg' := h1 g hg
    have h3 := (elG_spec hf hg').2
    simp only [elG, Bool.and_eq_true] at hg'
    refine List.mem_flatMap.2 ⟨g.1, (pmL_mem hf _ _ _ _).2 hg'.1.1.1, List.mem_map.2 ⟨g.2, List.mem_of_getElem? (cl_ix ha hc h3), rfl⟩⟩)
  rw [flat_len] at this
  have h4 := pm_count f hf
  have h5 : (cl a c).length ≤ 64 := by
    unfold cl
    rw [cellsL_len]
    have : ((a.toNat * c.toNat : Nat) : Int) = a * c := by rw [Int.natCast_mul, Int.toNat_of_nonneg (by omega), Int.toNat_of_nonneg (by omega)]
    omega
  have := Nat.mul_le_mul h4 h5
  omega
theorem elG_suit {f a b c : Int} (hf : 0 ≤ f ∧ f ≤ 1) (ha : 1 ≤ a ∧ a ≤ 64) (hc : 1 ≤ c ∧ c ≤ 64) {g : G6} : elG f a b c g = true ↔ (suitG f a b c g = true ∧ redG a b c g = g) := by
  constructor
  · intro h
    obtain ⟨_, h1, h2⟩ := elG_spec hf h
    simp only [elG, Bool.and_eq_true] at h
    refine ⟨?_, ?_⟩
    · simp only [suitG, suit, Bool.and_eq_true]
      exact ⟨h.1.1, okV_spec.2 (by omega)⟩
    · unfold redG redX
      rw [Int.ediv_eq_zero_of_lt h2.1 h2.2, Int.emod_eq_of_lt h2.1 h2.2, Int.zero_mul, Int.sub_zero, Int.emod_eq_of_lt h1.1 h1.2]
  · rintro ⟨h1, h2⟩
    simp only [suitG, suit, Bool.and_eq_true] at h1
    have h3 := red_lt (a := a) (b := b) (c := c) (x := g.2.1) (y := g.2.2) ha.1 hc.1
    have e1 : redX a b c g.2.1 g.2.2 = g.2.1 := congrArg (fun g : G6 => g.2.1) h2
    have e2 : g.2.2 % c = g.2.2 := congrArg (fun g : G6 => g.2.2) h2
    rw [e1, e2] at h3
    simp only [elG, Bool.and_eq_true, decide_eq_true_eq]
    exact ⟨⟨h1.1, h3.1⟩, h3.2⟩
theorem s_sisGrp (f a b c : Int) (l : List G6) (hl : l.length ≤ 1048576) (T : Bool) (hT : T = true ↔ ((0 ≤ f ∧ f ≤ 1 ∧ okL a b c = true) ∧ grp f a b c l)) : Sp Try.prog 114 [vi f, aL a b c, .v (vgs l)] (vb T) [] := by
  refine sp_of (m := no) mixed Try.func114 k114 ?_
  have w0 := s_scode f a b c
  simp -dsimp [q]
  by_cases h : 0 ≤ f ∧ f ≤ 1 ∧ okL a b c = true
  case neg =>
    have e : T = false := by rw [Bool.eq_false_iff]; exact fun e => h (hT.1 e).1
    subst e
    rw [if_neg h] at w0
    refine call_of (w0) rfl (by simp) ?_
    try simp -dsimp
    try (first | exact fp_one (by decide) | refine fp_and (by decide) ?_)
  rw [if_pos h] at w0
  have hf : 0 ≤ f ∧ f ≤ 1 := ⟨h.1, h.2.1⟩
  obtain ⟨ha, hc, hb, hac⟩ := okL_spec.1 h.2.2
  have hT : T = true ↔ grp f a b c l := hT.trans (and_iff_right h)
  have hF : ¬ grp f a b c l → T = false := fun hn => by rw [Bool.eq_false_iff]; exact fun e => hn (hT.1 e)
  refine call_of (w0) rfl (by simp) ?_
  try simp -dsimp
  try (first | exact fp_one (by decide) | refine fp_and (by decide) ?_)
  refine ⟨fun hlen => ?_, fun hlen => ?_⟩
  · refine hF fun hG => ?_
    have := fst_len hf ha.1 hc.1 hac hG.1
    omega
  refine awp_it (true :: false :: true :: false :: true :: false :: false :: true :: []) (fun i : Nat => [(7, vi i)]) (fun i => []) (fun i => i ≤ l.length ∧ fst f a b c l i) (fun i => l.length - i) 0 ?_
  intro s0 e
  simp -dsimp at e
  subst e
  refine ⟨?_, ?_⟩
  · simp [fst, srt]
  rintro i ⟨hi, hfs⟩
  simp -dsimp [-Prod.forall, -Prod.exists]
  refine ⟨fun h1 => ⟨h1, fun g hg => ?_⟩, fun h1 => ?_⟩
  · have hnx := fst_succ (f := f) (a := a) (b := b) (c := c) hg
    have bad : ¬ fst f a b c l (i + 1) → T = false := fun hn => hF fun hG => hn (fst_mono (by omega) hG.1)
    have wsu := s_ssuit' f a b c g.1.1 g.1.2.1 g.1.2.2.1 g.1.2.2.2 g.2.1 g.2.2 (suitG f a b c g) (by rw [decide_eq_true hf, h.2.2]; rfl)
    by_cases ht : suitG f a b c g = true
    case neg =>
      rw [show suitG f a b c g = false by simpa using ht] at wsu
      have e := bad (fun hn => ht ((elG_suit hf ha hc).1 (hnx.1 hn).2.1).1)
      subst e
      refine call_of (wsu) rfl (by simp) ?_
      try simp -dsimp
      try (first | exact fp_one (by decide) | refine fp_and (by decide) ?_)
    rw [ht] at wsu
    refine call_of (wsu) rfl (by simp) ?_
    try simp -dsimp
    try (first | exact fp_one (by decide) | refine fp_and (by decide) ?_)
    obtain ⟨hsm, _⟩ := suit_small hf ht
    obtain ⟨_, _, s1, s2⟩ := hsm
    refine ⟨h1, fun g1 g2 g3 g4 g5 g6 hg' => ?_⟩
    rw [hg] at hg'
    cases hg'
    have wr := s_sgred a b c ((g1, g2, g3, g4), g5, g6) ha hb hc (by omega) (by omega)
    simp only [redG] at wr s1 s2
    refine call_of (wr) rfl (by simp) ?_
    try simp -dsimp
    try (first | exact fp_one (by decide) | refine fp_and (by decide) ?_)
    refine ⟨h1, fun k1 k2 k3 k4 k5 k6 hk => ?_⟩
    rw [hg] at hk
    cases hk
    simp -dsimp
    have hel : elG f a b c ((g1, g2, g3, g4), g5, g6) = true ↔ (redX a b c g5 g6 = g5 ∧ g6 % c = g6) := by
      rw [elG_suit hf ha hc, and_iff_right ht]
      simp only [redG, Prod.mk.injEq, true_and]
    have next : fst f a b c l (i + 1) → ∃ y : Nat, IntKind.i64.wrap ((i : Int) + 1) = y ∧ (y ≤ l.length ∧ fst f a b c l y) ∧ l.length - y < l.length - i := fun hn =>
      ⟨i + 1, by rw [w64 (by omega) (by omega)]; simp, ⟨by omega, hn⟩, by omega⟩
    refine ⟨fun e1 e2 => ⟨fun hi0 => ⟨by rw [w64 (by omega) (by omega)]; omega, fun p1 p2 p3 p4 p5 p6 hp => ⟨h1, fun k1 k2 k3 k4 k5 k6 hk => ?_⟩⟩, fun hi0 => ?_⟩, fun hne => ?_⟩
    · rw [w64 (by omega) (by omega), show ((i : Int) - 1).toNat = i - 1 by omega] at hp
      rw [hg] at hk
      cases hk
      refine call_of (s_lessG ((p1, p2, p3, p4), p5, p6) ((g1, g2, g3, g4), g5, g6)) rfl (by simp) ?_
      try simp -dsimp
      try (first | exact fp_one (by decide) | refine fp_and (by decide) ?_)
      refine ⟨fun hlt => ?_, fun hlt => ?_⟩
      · refine bad (fun hn => ?_)
        have := (hnx.1 hn).2.2 _ hi0 hp
        rw [hlt] at this
        cases this
      · refine next (hnx.2 ⟨hfs, hel.2 ⟨e1, e2⟩, fun p hp0 hp' => ?_⟩)
        rw [hp] at hp'
        cases hp'
        exact hlt
    · exact next (hnx.2 ⟨hfs, hel.2 ⟨e1, e2⟩, fun p hp0 _ => by omega⟩)
    · refine bad (fun hn => ?_)
      have := hel.1 (hnx.1 hn).2.1
      exact hne this.1 this.2
  · have hi2 : i = l.length := by omega
    subst hi2
    have hsrt : srt l := by have := hfs.2; rwa [List.take_length] at this
    refine call_of (s_sun) rfl (by simp) ?_
    try simp -dsimp
    try (first | exact fp_one (by decide) | refine fp_and (by decide) ?_)
    refine call_of (s_shas l unG hsrt hl) rfl (by simp) ?_
    try simp -dsimp
    try (first | exact fp_one (by decide) | refine fp_and (by decide) ?_)
    refine ⟨fun hu => hF fun hG => hu hG.2.1, fun hu => ?_⟩
    refine awp_it (false :: false :: true :: false :: true :: false :: false :: false :: true :: []) (fun i : Nat => [(8, vi i)]) (fun i => []) (fun i => i ≤ l.length ∧ prd a b c l i) (fun i => l.length - i) 0 ?_
    intro s0 e
    simp -dsimp at e
    subst e
    refine ⟨?_, ?_⟩
    · simp [prd]
    have mem : ∀ (n : Nat) x, l[n]? = some x → oneM x.1 ∧ x.2.1.natAbs ≤ 1000 ∧ x.2.2.natAbs ≤ 1000 := fun n x hx => by
      obtain ⟨m1, m2⟩ := elG_spec hf (hfs.1 x (by rw [List.take_length]; exact List.mem_of_getElem? hx))
      obtain ⟨m3, m4⟩ := m2
      exact ⟨m1, by omega, by omega⟩
    rintro i ⟨hi, hp⟩
    simp -dsimp [-Prod.forall, -Prod.exists]
    refine ⟨fun h1 => ?_, fun h1 => ?_⟩
    · obtain ⟨g, hg⟩ : ∃ g, l[i]? = some g := ⟨_, List.getElem?_eq_getElem h1⟩
      have mg := mem i g hg
      refine awp_it (false :: false :: true :: false :: true :: false :: false :: false :: true :: true :: []) (fun j : Nat => [(9, vi j)]) (fun j => []) (fun j => j ≤ l.length ∧ prd1 a b c l g j) (fun j => l.length - j) 0 ?_
      intro s0 e
      simp -dsimp at e
      subst e
      refine ⟨?_, ?_⟩
      · simp [prd1]
      rintro j ⟨hj, hq⟩
      simp -dsimp [-Prod.forall, -Prod.exists]
      refine ⟨fun j1 => ⟨h1, fun g' hg' => ⟨j1, fun k hk => ?_⟩⟩, fun j1 => ?_⟩
      · rw [hg] at hg'
        cases hg'
        have mk := mem j k hk
        have wmul := s_sgmul g k mg mk
        obtain ⟨⟨⟨a1, a2⟩, a3, a4⟩, a5, a6⟩ := mg
        obtain ⟨_, b5, b6⟩ := mk
        have q1 := mul_bd a1 b5
        have q2 := mul_bd a2 b6
        have q3 := mul_bd a3 b5
        have q4 := mul_bd a4 b6
        refine call_of (wmul) rfl (by simp) ?_
        try simp -dsimp
        try (first | exact fp_one (by decide) | refine fp_and (by decide) ?_)
        refine call_of (s_sgred a b c (mulG g k) ha hb hc (by simp only [mulG]; omega) (by simp only [mulG]; omega)) rfl (by simp) ?_
        try simp -dsimp
        try (first | exact fp_one (by decide) | refine fp_and (by decide) ?_)
        refine call_of (s_shas l (redG a b c (mulG g k)) hsrt hl) rfl (by simp) ?_
        try simp -dsimp
        try (first | exact fp_one (by decide) | refine fp_and (by decide) ?_)
        refine ⟨fun hno => hF fun hG => ?_, fun hyes => ⟨j + 1, by rw [w64 (by omega) (by omega)]; simp, ⟨by omega, ?_⟩, by omega⟩⟩
        · exact hno (hG.2.2 g (by rw [List.take_length]; exact List.mem_of_getElem? hg) k (List.mem_of_getElem? hk))
        · intro x hx
          rcases mem_take_succ hk hx with hx | hx
          · exact hq x hx
          · rw [hx]; exact hyes
      · refine ⟨i + 1, by rw [w64 (by omega) (by omega)]; simp, ⟨by omega, ?_⟩, by omega⟩
        intro x hx y hy
        rcases mem_take_succ hg hx with hx | hx
        · exact hp x hx y hy
        · rw [hx]; exact hq y (by rw [List.take_of_length_le (by omega)]; exact hy)
    · have : i = l.length := by omega
      subst this
      exact hT.2 ⟨hfs, hu, hp⟩
end Go.Proofs.YtihkjljafjhniaaEv
namespace Go.Proofs.YtihkjljafjhniaaEv
open Go Go.Proofs
set_option maxRecDepth 10000
/-! lists of vectors -/
theorem s_fiV (l : List (Int × Int)) (f : Nat) (cs : List A) (p : Int × Int → Bool) (h : l.length ≤ 1048576) (hc : cs.all A.shut = true) (hf : ∀ v ∈ l, Sp Try.prog f (aV v.1 v.2 :: cs) (vb (p v)) []) : Sp Try.prog 202 [.v (vvs l), .fn f cs] (vi (if l.any p = true then l.findIdx p else -1)) [] := by
  refine sp_of (m := no) mixed Try.func202 k202 ?_
  simp -dsimp [q]
  refine awp_it (true :: true :: false :: false :: false :: false :: false :: true :: true :: []) (fun i : Nat => [(8, vi i)]) (fun i => []) (fun i => i ≤ l.length ∧ (l.take i).any p = false) (fun i => l.length - i) 0 ?_
  intro s0 e
  simp -dsimp [hc] at e
  subst e
  refine ⟨?_, ?_⟩
  · simp [hc]
  intro i hi
  simp -dsimp [hc]
  refine ⟨fun h1 => ⟨h1, fun x y ha => call_of (rd := []) (hf (x, y) (List.mem_of_getElem? ha)) (by simp [toArgs_shut hc]) (by simp) ?_⟩, fun h1 => ?_⟩
  · simp -dsimp [hc]
    have hi2 : ∀ x ∈ l.take i, p x = false := fun x hx => by
      have := List.any_eq_false.1 hi.2 x hx
      simpa using this
    obtain ⟨_, hal⟩ := List.getElem?_eq_some_iff.1 ha
    refine ⟨fun hp => ?_, fun hp => ⟨i + 1, by rw [w64 (by omega) (by omega)]; simp, ⟨by omega, fun x' y' hx => ?_⟩, by omega⟩⟩
    · rw [if_pos (List.any_eq_true.2 ⟨(x, y), List.mem_of_getElem? ha, hp⟩), (List.findIdx_eq h1).2 ⟨by rw [hal]; exact hp, fun j hj => hi2 _ (List.mem_iff_getElem.2 ⟨j, by simp; omega, by simp⟩)⟩]
    · rcases mem_take_succ ha hx with hx | hx
      · exact hi2 _ hx
      · rw [hx]; exact hp
  · have := hi.2
    rw [List.take_of_length_le h1] at this
    intro x y hx
    simpa using List.any_eq_false.1 this (x, y) hx
theorem s_hasV (l : List (Int × Int)) (f : Nat) (cs : List A) (p : Int × Int → Bool) (h : l.length ≤ 1048576) (hc : cs.all A.shut = true) (hf : ∀ v ∈ l, Sp Try.prog f (aV v.1 v.2 :: cs) (vb (p v)) []) : Sp Try.prog 155 [.v (vvs l), .fn f cs] (vb (l.any p)) [] := by
  refine sp_of (m := no) mixed Try.func155 k155 ?_
  simp -dsimp [q]
  refine call_of (rd := []) (s_fiV l f cs p h hc hf) (by simp [hc]) (by simp) ?_
  simp -dsimp
  by_cases hp : l.any p = true
  · rw [if_pos hp, hp]
    simp
  · rw [if_neg hp]
    simp only [Bool.not_eq_true] at hp
    rw [hp]
    simp
def okS (l : List (Int × Int)) : Bool := decide (l.length = 9) && l.all fun v => okV v.1 v.2
theorem s_isS1 (x y : Int) : Sp Try.prog 156 [aV x y] (vb (!okV x y)) [] := by
  refine sp_of (m := no) mixed Try.func156 k156 ?_
  simp -dsimp [q]
  refine call_of (s_isVec _ _) rfl (by simp) ?_
  try simp -dsimp
  try (first | exact fp_one (by decide) | refine fp_and (by decide) ?_)
theorem all_not_any {α : Type} (l : List α) (p : α → Bool) : (!(l.any fun v => !p v)) = l.all p := by
  induction l with
  | nil => rfl
  | cons x l ih => simp only [List.any_cons, List.all_cons, Bool.not_or, Bool.not_not, ih]
theorem s_isS (l : List (Int × Int)) (h : l.length ≤ 1048576) : Sp Try.prog 88 [.v (vvs l)] (vb (okS l)) [] := by
  refine sp_of (m := no) mixed Try.func88 k88 ?_
  simp -dsimp [q]
  refine ⟨fun e => ?_, fun e => ?_⟩
  · refine call_of (s_hasV l _ [] (fun v => !okV v.1 v.2) h rfl (fun v _ => s_isS1 v.1 v.2)) rfl (by simp) ?_
    try simp -dsimp
    try (first | exact fp_one (by decide) | refine fp_and (by decide) ?_)
    have := all_not_any l (fun v => okV v.1 v.2)
    simp only [okS, decide_eq_true (show l.length = 9 by omega), Bool.true_and]
    rw [← this]
    simp
  · simp only [okS, decide_eq_false (show ¬ l.length = 9 by omega), Bool.false_and]
theorem s_sisS (l : List (Int × Int)) (h : l.length ≤ 1048576) : Sp Try.prog 86 [.v (vvs l)] (vb (okS l)) [] := by
  refine sp_of (m := no) mixed Try.func86 k86 ?_
  simp -dsimp [q]
  refine awp_it (true :: false :: false :: true :: []) (fun i : Nat => [(3, vi i)]) (fun i => []) (fun i => i ≤ l.length ∧ ∀ v ∈ l.take i, okV v.1 v.2 = true) (fun i => l.length - i) 0 ?_
  intro s0 e
  simp -dsimp at e
  subst e
  refine ⟨?_, ?_⟩
  · simp
  rintro i ⟨hi, hok⟩
  simp -dsimp
  refine ⟨fun h1 => ⟨h1, fun x y hxy => ?_⟩, fun h1 => ?_⟩
  · refine call_of (s_sisVec x y) rfl (by simp) ?_
    try simp -dsimp
    try (first | exact fp_one (by decide) | refine fp_and (by decide) ?_)
    refine ⟨fun e => ?_, fun e => ⟨i + 1, by rw [w64 (by omega) (by omega)]; simp, ⟨by omega, fun x' y' ht => ?_⟩, by omega⟩⟩
    · simp only [okS]
      have : (l.all fun v => okV v.1 v.2) = false := List.all_eq_false.2 ⟨(x, y), List.mem_of_getElem? hxy, by simp [e]⟩
      rw [this, Bool.and_false]
    · rcases mem_take_succ hxy ht with ht | ht
      · exact hok _ ht
      · cases ht; exact e
  · rw [List.take_of_length_le h1] at hok
    have : (l.all fun v => okV v.1 v.2) = true := List.all_eq_true.2 hok
    simp only [okS, this, Bool.and_true]
    by_cases e : l.length = 9
    · rw [decide_eq_true e]; simp [e]
    · rw [decide_eq_false e]; simp; omega
theorem s_scode25 (f a b c : Int) (l : List Int) (t : Bool) (hl : l.length ≤ 1048576) : Sp Try.prog 85 [aP f a b c l, vb t] (vi (if okP f a b c l = true then if t = true then 0 else 2 else 1)) [] := by
  refine sp_of (m := no) mixed Try.func85 k85 ?_
  simp -dsimp [q]
  refine call_of (s_sisP f a b c l hl) rfl (by simp) ?_
  cases okP f a b c l <;> cases t <;> simp -dsimp
/-! the prints -/
theorem okP_mask {f a b c : Int} {l : List Int} (ink : Int) (h : okP f a b c l = true) : okP f a b c (maskL l ink) = true := by
  rw [okP_spec] at h ⊢
  refine ⟨h.1, h.2.1, by rw [maskL_len]; exact h.2.2.1, fun n hn => ?_⟩
  obtain ⟨x, _, rfl⟩ := List.mem_map.1 hn
  split <;> omega
theorem ovS_eq {a b c u v : Int} {p m : List Int} {ink : Int} (ha : 0 < a) (hc : 0 < c) (hp : (p.length : Int) = a * c) (hm : m.length = p.length) : ovS a b c u v p m ink p.length = ovI p (mvI a b c u v m m.length) ink p.length := by
  apply List.ext_getElem?
  intro j
  by_cases hj : j < p.length
  · have h1 : mv a b c (-u) (-v) j < p.length := by have := mv_lt (b := b) (u := -u) (v := -v) ha hc j; omega
    rw [setN_get (i := mv a b c (-u) (-v) j) (m := p.length) hj h1 (fun k hk => mv_iff ha hc (by omega) (by omega)) p.length (Nat.le_refl _)]
    rw [setN_get (i := j) (m := p.length) hj hj (fun k hk => Iff.rfl) p.length (Nat.le_refl _)]
    simp [h1, hj, hm, mvI, List.getElem?_range hj]
  · rw [List.getElem?_eq_none (by rw [setN_len]; omega), List.getElem?_eq_none (by rw [setN_len]; omega)]
def prL (a b c : Int) (l : List Int) (sh : List (Int × Int)) : Nat → List Int
  | 0 => List.replicate l.length 0
  | k + 1 => ovI (prL a b c l sh k) (mvI a b c (sh.getD k (0, 0)).1 (sh.getD k (0, 0)).2 (maskL l (k + 1)) l.length) (k + 1) l.length
theorem prL_len {a b c : Int} {l : List Int} {sh : List (Int × Int)} : ∀ k, (prL a b c l sh k).length = l.length
  | 0 => by simp [prL]
  | k + 1 => by rw [prL, setN_len, prL_len k]
theorem s_marked (f a b c : Int) (k : Int) (ha : 1 ≤ a ∧ a ≤ 64) (hc : 1 ≤ c ∧ c ≤ 64) : Sp Try.prog 158 [vi f, aL a b c, .v (.sl 2 []), vi k] (oP f a b c 0) [.row 0 2 (is (List.replicate (a * c).toNat 0))] := by
  refine sp_of (m := no) mixed Try.func158 k158 ?_
  have h1 := ac_pos ha.1 hc.1
  have h2 := ac_hi ha hc
  simp -dsimp [q]
  refine call_of (s_index a b c ha hc) rfl (by simp) ?_
  try simp -dsimp
  try (first | exact fp_one (by decide) | refine fp_and (by decide) ?_)
  refine ⟨by omega, by decide, ?_⟩
  refine awp_it (false :: false :: false :: true :: false :: true :: false :: false :: true :: true :: false :: false :: false :: false :: false :: false :: false :: false :: true :: true :: true :: []) (fun i : Nat => [(20, vi i)]) (fun i => []) (fun i => i = 0) (fun i => 0) 0 ?_
  intro s0 e
  simp -dsimp at e
  subst e
  refine ⟨?_, ?_⟩
  · simp
  rintro i rfl
  simp -dsimp
theorem okS_get {sh : List (Int × Int)} (h : okS sh = true) {k : Nat} {x y : Int} (hk : sh[k]? = some (x, y)) : x.natAbs ≤ 1000 ∧ y.natAbs ≤ 1000 := by
  simp only [okS, Bool.and_eq_true, List.all_eq_true] at h
  have := okV_spec.1 (h.2 _ (List.mem_of_getElem? hk))
  simp only at this
  omega
theorem s_print (f a b c : Int) (l : List Int) (sh : List (Int × Int)) (hf : okP f a b c l = true) (hs : okS sh = true) : Sp Try.prog 89 [aP f a b c l, .v (vvs sh)] (oP f a b c 0) [.row 0 2 (is (prL a b c l sh 9))] := by
  obtain ⟨_, h2, h3, _⟩ := okP_spec.1 hf
  obtain ⟨ha, hc, hb, hac⟩ := okL_spec.1 h2
  have h1 := ac_pos ha.1 hc.1
  have h9 : sh.length = 9 := by simp only [okS, Bool.and_eq_true, decide_eq_true_eq] at hs; exact hs.1
  have h0 : l ≠ [] := by rintro rfl; simp at h3; omega
  refine sp_of (m := no) mixed Try.func89 k89 ?_
  simp -dsimp [q]
  refine call_of (s_marked f a b c 0 ha hc) rfl (by simp) ?_
  try simp -dsimp
  try (first | exact fp_one (by decide) | refine fp_and (by decide) ?_)
  refine awp_it (false :: false :: true :: false :: true :: true :: false :: false :: false :: false :: false :: false :: false :: false :: true :: true :: true :: []) (fun i : Nat => [(16, vi i)]) (fun i => [(3, .row 0 2 (is (prL a b c l sh i)))]) (fun i => i ≤ 9) (fun i => 9 - i) 0 ?_
  intro s0 e
  simp -dsimp at e
  subst e
  refine ⟨?_, ?_⟩
  · simp [prL]
    omega
  intro i hi
  simp -dsimp [h9]
  refine ⟨fun h5 => ⟨by omega, fun x y hxy => ?_⟩, fun h5 => ?_⟩
  · obtain ⟨k1, k2⟩ := okS_get hs hxy
    rw [w64 (by omega) (by omega)]
    refine call_of (s_mask f a b c l (i + 1) (by omega) h0) rfl (by simp) ?_
    try simp -dsimp
    try (first | exact fp_one (by decide) | refine fp_and (by decide) ?_)
    refine call_of (s_unit) rfl (by simp) ?_
    try simp -dsimp
    try (first | exact fp_one (by decide) | refine fp_and (by decide) ?_)
    refine call_of (s_move1 f a b c x y _ (okP_mask _ hf) k1 k2) rfl (by simp) ?_
    try simp -dsimp
    try (first | exact fp_one (by decide) | refine fp_and (by decide) ?_)
    have e1 := mvI_len (a := a) (b := b) (c := c) (u := x) (v := y) (l := maskL l (i + 1)) (n := (maskL l (i + 1)).length)
    have e2 := maskL_len l (i + 1)
    refine call_of (s_overprint f a b c (prL a b c l sh i) f a b c _ (i + 1) (by rw [prL_len]; omega) (by intro e; have := prL_len (a := a) (b := b) (c := c) (l := l) (sh := sh) i; rw [e] at this; simp at this; exact h0 (List.eq_nil_of_length_eq_zero this.symm)) (by rw [e1, e2, prL_len])) rfl (by simp) ?_
    try simp -dsimp
    try (first | exact fp_one (by decide) | refine fp_and (by decide) ?_)
    refine ⟨i + 1, ⟨by rw [w64 (by omega) (by omega)]; simp, ?_⟩, by omega, by omega⟩
    have e3 : sh.getD i (0, 0) = (x, y) := by simp [hxy]
    rw [prL, e3, prL_len, e2]
  · rw [show i = 9 by omega]
theorem s_sprint (f a b c : Int) (l : List Int) (sh : List (Int × Int)) (hf : okP f a b c l = true) (hs : okS sh = true) : Sp Try.prog 87 [aP f a b c l, .v (vvs sh)] (oP f a b c 0) [.row 0 2 (is (prL a b c l sh 9))] := by
  obtain ⟨_, h2, h3, _⟩ := okP_spec.1 hf
  obtain ⟨ha, hc, hb, hac⟩ := okL_spec.1 h2
  have h1 := ac_pos ha.1 hc.1
  have h9 : sh.length = 9 := by simp only [okS, Bool.and_eq_true, decide_eq_true_eq] at hs; exact hs.1
  have h0 : l ≠ [] := by rintro rfl; simp at h3; omega
  refine sp_of (m := no) mixed Try.func87 k87 ?_
  simp -dsimp [q]
  refine ⟨by omega, by decide, ?_⟩
  refine awp_it (false :: true :: true :: false :: true :: true :: true :: []) (fun i : Nat => [(6, vi (i + 1))]) (fun i => [(3, .row 0 2 (is (prL a b c l sh i)))]) (fun i => i ≤ 9) (fun i => 9 - i) 0 ?_
  intro s0 e
  simp -dsimp at e
  subst e
  refine ⟨?_, ?_⟩
  · simp [prL]
  intro i hi
  simp -dsimp [h9]
  refine ⟨fun h5 => ?_, fun h5 => ?_⟩
  · refine call_of (s_smask f a b c l (i + 1) (by omega)) rfl (by simp) ?_
    try simp -dsimp
    try (first | exact fp_one (by decide) | refine fp_and (by decide) ?_)
    rw [w64 (n := (i : Int)) (by omega) (by omega)]
    refine ⟨⟨by omega, by omega⟩, fun x y hxy => ?_⟩
    simp only [Int.toNat_natCast] at hxy
    obtain ⟨k1, k2⟩ := okS_get hs hxy
    have hw := s_over f a b c (prL a b c l sh i) f a b c (maskL l (i + 1)) (i + 1) x y h2 (by rw [prL_len]; exact h3) (by rw [maskL_len, prL_len]) k1 k2
    rw [ovS_eq (by omega) (by omega) (by rw [prL_len]; exact h3) (by rw [maskL_len, prL_len])] at hw
    refine call_of (hw) rfl (by simp) ?_
    try simp -dsimp
    try (first | exact fp_one (by decide) | refine fp_and (by decide) ?_)
    refine ⟨i + 1, ⟨by rw [w64 (by omega) (by omega)]; simp, ?_⟩, by omega, by omega⟩
    have e3 : sh.getD i (0, 0) = (x, y) := by simp [hxy]
    rw [prL, e3, prL_len, maskL_len]
  · rw [show i = 9 by omega]
/-! all of it -/
abbrev zP : A := .ag [vi 0, vi 0, vi 0, vi 0, .nil 0]
theorem s_pS (f a b c : Int) (l : List Int) (sh : List (Int × Int)) (hf : okP f a b c l = true) (hs : okS sh = true) (hl : l.length ≤ 1048576) (hsl : sh.length ≤ 1048576) : Sp Try.prog 26 [aP f a b c l, .v (vvs sh)] (.tu [oP f a b c 0, vi 0]) [.row 0 2 (is (prL a b c l sh 9))] := by
  have w1 := s_isP f a b c l hl
  have w2 := s_isS sh hsl
  rw [hf] at w1
  rw [hs] at w2
  refine sp_of (m := no) mixed Try.func26 k26 ?_
  simp -dsimp [q]
  refine call_of (w1) rfl (by simp) ?_
  try simp -dsimp
  try (first | exact fp_one (by decide) | refine fp_and (by decide) ?_)
  refine call_of (w2) rfl (by simp) ?_
  try simp -dsimp
  try (first | exact fp_one (by decide) | refine fp_and (by decide) ?_)
  refine call_of (s_print f a b c l sh hf hs) rfl (by simp) ?_
  try simp -dsimp
  try (first | exact fp_one (by decide) | refine fp_and (by decide) ?_)
theorem s_pS_bad (f a b c : Int) (l : List Int) (sh : List (Int × Int)) (hf : okP f a b c l = false) (hl : l.length ≤ 1048576) : Sp Try.prog 26 [aP f a b c l, .v (vvs sh)] (.tu [zP, vi 1]) [] := by
  have w1 := s_isP f a b c l hl
  rw [hf] at w1
  refine sp_of (m := no) mixed Try.func26 k26 ?_
  simp -dsimp [q]
  refine call_of (w1) rfl (by simp) ?_
  try simp -dsimp
  try (first | exact fp_one (by decide) | refine fp_and (by decide) ?_)
theorem s_pS_far (f a b c : Int) (l : List Int) (sh : List (Int × Int)) (hf : okP f a b c l = true) (hs : okS sh = false) (hl : l.length ≤ 1048576) (hsl : sh.length ≤ 1048576) : Sp Try.prog 26 [aP f a b c l, .v (vvs sh)] (.tu [zP, vi 2]) [] := by
  have w1 := s_isP f a b c l hl
  have w2 := s_isS sh hsl
  rw [hf] at w1
  rw [hs] at w2
  refine sp_of (m := no) mixed Try.func26 k26 ?_
  simp -dsimp [q]
  refine call_of (w1) rfl (by simp) ?_
  try simp -dsimp
  try (first | exact fp_one (by decide) | refine fp_and (by decide) ?_)
  refine call_of (w2) rfl (by simp) ?_
  try simp -dsimp
  try (first | exact fp_one (by decide) | refine fp_and (by decide) ?_)
theorem s_spS (f a b c : Int) (l : List Int) (sh : List (Int × Int)) (hf : okP f a b c l = true) (hs : okS sh = true) (hl : l.length ≤ 1048576) (hsl : sh.length ≤ 1048576) : Sp Try.prog 25 [aP f a b c l, .v (vvs sh)] (.tu [oP f a b c 0, vi 0]) [.row 0 2 (is (prL a b c l sh 9))] := by
  have w1 := s_scode25 f a b c l true hl
  have w2 := s_sisS sh hsl
  rw [hf] at w1
  rw [hs] at w2
  refine sp_of (m := no) mixed Try.func25 k25 ?_
  simp -dsimp [q]
  refine call_of (w2) rfl (by simp) ?_
  try simp -dsimp
  try (first | exact fp_one (by decide) | refine fp_and (by decide) ?_)
  refine call_of (w1) rfl (by simp) ?_
  try simp -dsimp
  try (first | exact fp_one (by decide) | refine fp_and (by decide) ?_)
  refine call_of (s_sprint f a b c l sh hf hs) rfl (by simp) ?_
  try simp -dsimp
  try (first | exact fp_one (by decide) | refine fp_and (by decide) ?_)
theorem s_spS_bad (f a b c : Int) (l : List Int) (sh : List (Int × Int)) (hb : ¬ (okP f a b c l = true ∧ okS sh = true)) (hl : l.length ≤ 1048576) (hsl : sh.length ≤ 1048576) : Sp Try.prog 25 [aP f a b c l, .v (vvs sh)] (.tu [zP, vi (if okP f a b c l = true then 2 else 1)]) [] := by
  have w1 := s_scode25 f a b c l (okS sh) hl
  have w2 := s_sisS sh hsl
  generalize okP f a b c l = p at *
  generalize okS sh = s at *
  refine sp_of (m := no) mixed Try.func25 k25 ?_
  simp -dsimp [q]
  refine call_of (w2) rfl (by simp) ?_
  try simp -dsimp
  try (first | exact fp_one (by decide) | refine fp_and (by decide) ?_)
  refine call_of (w1) rfl (by simp) ?_
  try simp -dsimp
  try (first | exact fp_one (by decide) | refine fp_and (by decide) ?_)
  cases p <;> cases s <;> simp at hb ⊢
def gapL (p r : List Int) : Nat → Int
  | 0 => 0
  | n + 1 => gapL p r n + if r.getD n 0 = 0 ∧ p.getD n 0 ≠ 0 then 1 else 0
theorem gapL_bd (p r : List Int) : ∀ n, 0 ≤ gapL p r n ∧ gapL p r n ≤ n
  | 0 => by simp [gapL]
  | n + 1 => by have := gapL_bd p r n; simp only [gapL]; split <;> omega
theorem s_gaps (f a b c : Int) (l : List Int) (sh : List (Int × Int)) (hf : okP f a b c l = true) (hs : okS sh = true) (hl : l.length ≤ 1048576) (hsl : sh.length ≤ 1048576) : Sp Try.prog 23 [aP f a b c l, .v (vvs sh)] (.tu [vi (gapL l (prL a b c l sh 9) l.length), vi 0]) [] := by
  refine sp_of (m := no) mixed Try.func23 k23 ?_
  have e := prL_len (a := a) (b := b) (c := c) (l := l) (sh := sh) 9
  have w := s_pS f a b c l sh hf hs hl hsl
  generalize prL a b c l sh 9 = r at *
  simp -dsimp [q]
  refine call_of (w) rfl (by simp) ?_
  try simp -dsimp
  try (first | exact fp_one (by decide) | refine fp_and (by decide) ?_)
  refine awp_it (false :: false :: true :: false :: false :: false :: false :: true :: true :: false :: false :: false :: false :: false :: false :: false :: false :: false :: true :: true :: true :: []) (fun i : Nat => [(8, vi (gapL l r i)), (20, vi i)]) (fun i => []) (fun i => i ≤ l.length) (fun i => l.length - i) 0 ?_
  intro s0 e
  simp -dsimp at e
  subst e
  refine ⟨?_, ?_⟩
  · simp [gapL]
  intro i hi
  simp -dsimp [e]
  have hb := gapL_bd l r i
  refine ⟨fun h1 => ⟨by omega, fun z hz => ?_⟩, fun h1 => ?_⟩
  · refine ⟨fun e0 => ⟨h1, fun y hy => ⟨fun e1 => ⟨i + 1, ⟨?_, by rw [w64 (by omega) (by omega)]; simp⟩, by omega, by omega⟩, fun e1 => ⟨i + 1, ⟨?_, by rw [w64 (by omega) (by omega)]; simp⟩, by omega, by omega⟩⟩⟩, fun e0 => ⟨i + 1, ⟨?_, by rw [w64 (by omega) (by omega)]; simp⟩, by omega, by omega⟩⟩
    · rw [w64 (by omega) (by omega)]
      simp [gapL, hz, hy, e0, e1]
    · simp [gapL, hz, hy, e0, e1]
    · simp [gapL, hz, e0]
  · rw [show i = l.length by omega]
theorem s_gaps_bad (f a b c : Int) (l : List Int) (sh : List (Int × Int)) (k : Int) (w : Sp Try.prog 26 [aP f a b c l, .v (vvs sh)] (.tu [zP, vi k]) []) : Sp Try.prog 23 [aP f a b c l, .v (vvs sh)] (.tu [vi 0, vi k]) [] := by
  refine sp_of (m := no) mixed Try.func23 k23 ?_
  simp -dsimp [q]
  refine call_of (w) rfl (by simp) ?_
  try simp -dsimp
  try (first | exact fp_one (by decide) | refine fp_and (by decide) ?_)
  refine awp_it (false :: false :: true :: false :: false :: false :: false :: true :: true :: false :: false :: false :: false :: false :: false :: false :: false :: false :: true :: true :: true :: []) (fun i : Nat => []) (fun i => []) (fun i => i = 0) (fun i => 0) 0 ?_
  intro s0 e
  simp -dsimp at e
  subst e
  refine ⟨?_, ?_⟩
  · simp
  rintro i rfl
  simp -dsimp
theorem s_sgaps (f a b c : Int) (l : List Int) (sh : List (Int × Int)) (hf : okP f a b c l = true) (hs : okS sh = true) (hl : l.length ≤ 1048576) (hsl : sh.length ≤ 1048576) : Sp Try.prog 21 [aP f a b c l, .v (vvs sh)] (.tu [vi (gapL l (prL a b c l sh 9) l.length), vi 0]) [] := by
  have hpos := (okP_spec.1 hf).2.2.2
  have w1 := s_scode25 f a b c l true hl
  have w2 := s_sisS sh hsl
  have w3 := s_sprint f a b c l sh hf hs
  rw [hf] at w1
  rw [hs] at w2
  have e := prL_len (a := a) (b := b) (c := c) (l := l) (sh := sh) 9
  generalize prL a b c l sh 9 = r at *
  refine sp_of (m := no) mixed Try.func21 k21 ?_
  simp -dsimp [q]
  refine call_of (w2) rfl (by simp) ?_
  try simp -dsimp
  try (first | exact fp_one (by decide) | refine fp_and (by decide) ?_)
  refine call_of (w1) rfl (by simp) ?_
  try simp -dsimp
  try (first | exact fp_one (by decide) | refine fp_and (by decide) ?_)
  refine call_of (w3) rfl (by simp) ?_
  try simp -dsimp
  try (first | exact fp_one (by decide) | refine fp_and (by decide) ?_)
  refine awp_it (false :: false :: true :: false :: false :: false :: false :: true :: true :: true :: []) (fun i : Nat => [(8, vi (gapL l r i)), (9, vi i)]) (fun i => []) (fun i => i ≤ l.length) (fun i => l.length - i) 0 ?_
  intro s0 e
  simp -dsimp at e
  subst e
  refine ⟨?_, ?_⟩
  · simp [gapL]
  intro i hi
  simp -dsimp [e]
  have hb := gapL_bd l r i
  refine ⟨fun h1 => ⟨h1, fun y hy => ?_⟩, fun h1 => ?_⟩
  · have hy0 := hpos y (List.mem_of_getElem? hy)
    refine ⟨fun e1 => ⟨h1, fun z hz => ⟨fun e0 => ⟨i + 1, ⟨?_, by rw [w64 (by omega) (by omega)]; simp⟩, by omega, by omega⟩, fun e0 => ⟨i + 1, ⟨?_, by rw [w64 (by omega) (by omega)]; simp⟩, by omega, by omega⟩⟩⟩, fun e1 => ⟨i + 1, ⟨?_, by rw [w64 (by omega) (by omega)]; simp⟩, by omega, by omega⟩⟩
    · rw [w64 (by omega) (by omega)]
      simp [gapL, hz, hy, e0, show ¬ y = 0 by omega]
    · simp [gapL, hz, e0]
    · simp [gapL, hy, show y = 0 by omega]
  · rw [show i = l.length by omega]
theorem s_sgaps_bad (f a b c : Int) (l : List Int) (sh : List (Int × Int)) (hb : ¬ (okP f a b c l = true ∧ okS sh = true)) (hl : l.length ≤ 1048576) (hsl : sh.length ≤ 1048576) : Sp Try.prog 21 [aP f a b c l, .v (vvs sh)] (.tu [vi 0, vi (if okP f a b c l = true then 2 else 1)]) [] := by
  have w1 := s_scode25 f a b c l (okS sh) hl
  have w2 := s_sisS sh hsl
  generalize okP f a b c l = p at *
  generalize okS sh = s at *
  refine sp_of (m := no) mixed Try.func21 k21 ?_
  simp -dsimp [q]
  refine call_of (w2) rfl (by simp) ?_
  try simp -dsimp
  try (first | exact fp_one (by decide) | refine fp_and (by decide) ?_)
  refine call_of (w1) rfl (by simp) ?_
  try simp -dsimp
  try (first | exact fp_one (by decide) | refine fp_and (by decide) ?_)
  cases p <;> cases s <;> simp at hb ⊢
end Go.Proofs.YtihkjljafjhniaaEv
namespace Go.Proofs.YtihkjljafjhniaaEv
open Go Go.Proofs
set_option maxRecDepth 10000
set_option maxHeartbeats 1000000
theorem s_szGS (l : List G6) (n : Int) (h : l.length ≤ maxLen) (hn : 0 ≤ n ∧ n ≤ 1048576) : Sp Try.prog 38 [.v (vgs l), vi n] (vi (if n < l.length then -1 else n - l.length)) [] := by
  refine sp_of (m := no) mixed Try.func38 k38 ?_
  rw [mLen] at h
  simp -dsimp [q]
  rw [w64 (by omega) (by omega)]
  constructor
  · intro h1 h2; omega
  · intro h1; rw [if_neg (by omega)]
@[simp] theorem gs_rep (n : Nat) (a b c d x y : Int) : List.replicate n (V.ag [.int .i64 a, .int .i64 b, .int .i64 c, .int .i64 d, .int .i64 x, .int .i64 y]) = gs (List.replicate n ((a, b, c, d), x, y)) := by simp [gs, vg]
theorem s_toGS (l : List G6) (h : l.length ≤ 1048576) : Sp Try.prog 40 [.v (vgs l)] (.sli 0) [.row 6 63 (gs l)] := by
  refine sp_of (m := no) mixed Try.func40 k40 ?_
  simp -dsimp [q]
  refine ⟨⟨by omega, by omega⟩, ?_⟩
  refine awp_it (true :: false :: false :: true :: true :: []) (fun i : Nat => [(4, vi i)]) (fun i => [(0, .row 6 63 (gs (l.take i ++ List.replicate (l.length - i) ((0, 0, 0, 0), 0, 0))))]) (fun i => i ≤ l.length) (fun i => l.length - i) 0 ?_
  intro s0 e
  simp -dsimp at e
  subst e
  refine ⟨?_, ?_⟩
  · simp
  intro i hi
  simp -dsimp [-Prod.forall, -Prod.exists]
  refine ⟨fun h1 => ⟨h1, fun g ha => ?_⟩, fun h1 => ?_⟩
  · refine call_of (s_toMo g) rfl (by simp) ?_
    try simp -dsimp
    try (first | exact fp_one (by decide) | refine fp_and (by decide) ?_)
    refine ⟨by omega, by omega, i + 1, ⟨by rw [w64 (by omega) (by omega)]; simp, ?_⟩, by omega, by omega⟩
    exact fill_set ha
  · have : i = l.length := by omega
    subst this
    simp
theorem s_eqM (m n : M4) : Sp Try.prog 112 [aM4 m, aM4 n] (vb (decide (m = n))) [] := by
  obtain ⟨a, b, c, d⟩ := m
  obtain ⟨a', b', c', d'⟩ := n
  refine sp_of (m := no) mixed Try.func112 k112 ?_
  simp -dsimp [q]
  refine ⟨fun h e => absurd e h, fun h => ⟨fun h2 _ e => absurd e h2, fun h2 => ⟨fun h3 _ _ e => absurd e h3, fun h3 => ⟨fun h4 _ _ _ => h4, fun h4 => ⟨h, h2, h3, h4⟩⟩⟩⟩⟩
theorem s_eqG (g h : G6) : Sp Try.prog 43 [aG6 g, aG6 h] (vb (decide (g = h))) [] := by
  have w1 := s_eqM g.1 h.1
  have w2 := s_eqV g.2.1 g.2.2 h.2.1 h.2.2
  have e : decide (g = h) = (decide (g.1 = h.1) && decide (g.2.1 = h.2.1 ∧ g.2.2 = h.2.2)) := by
    rw [Bool.eq_iff_iff, Bool.and_eq_true, decide_eq_true_iff, decide_eq_true_iff, decide_eq_true_iff]
    constructor
    · rintro rfl; exact ⟨rfl, rfl, rfl⟩
    · rintro ⟨e1, e2, e3⟩; exact Prod.ext e1 (Prod.ext e2 e3)
  rw [e]
  generalize decide (g.1 = h.1) = b1 at *
  generalize decide (g.2.1 = h.2.1 ∧ g.2.2 = h.2.2) = b2 at *
  refine sp_of (m := no) mixed Try.func43 k43 ?_
  simp -dsimp [q]
  refine call_of (w1) rfl (by simp) ?_
  try simp -dsimp
  try (first | exact fp_one (by decide) | refine fp_and (by decide) ?_)
  cases b1
  · simp -dsimp
  simp -dsimp
  refine call_of (w2) rfl (by simp) ?_
  try simp -dsimp
  try (first | exact fp_one (by decide) | refine fp_and (by decide) ?_)
theorem s_eqGS (xs ys : List G6) (hx : xs.length ≤ 1048576) : Sp Try.prog 44 [.v (vgs xs), .v (vgs ys)] (vb (decide (xs = ys))) [] := by
  refine sp_of (m := no) mixed Try.func44 k44 ?_
  simp -dsimp [q]
  refine ⟨fun h e => h (by rw [e]), fun hl => ?_⟩
  refine awp_it (true :: true :: false :: false :: false :: true :: []) (fun i : Nat => [(5, vi i)]) (fun i => []) (fun i => i ≤ xs.length ∧ xs.take i = ys.take i) (fun i => xs.length - i) 0 ?_
  intro s0 e
  simp -dsimp at e
  subst e
  refine ⟨?_, ?_⟩
  · simp
  intro i hi
  simp -dsimp [-Prod.forall, -Prod.exists]
  obtain ⟨hi, ht⟩ := hi
  refine ⟨fun h1 => ⟨h1, fun g ha => ⟨by omega, fun h hb => ?_⟩⟩, fun h1 => ?_⟩
  · have w := s_eqG g h
    by_cases e : g = h
    · subst e
      rw [decide_eq_true rfl] at w
      refine call_of (w) rfl (by simp) ?_
      try simp -dsimp
      try (first | exact fp_one (by decide) | refine fp_and (by decide) ?_)
      refine ⟨i + 1, by rw [w64 (by omega) (by omega)]; simp, ⟨by omega, ?_⟩, by omega⟩
      rw [List.take_add_one, List.take_add_one, ht, ha, hb]
    · rw [decide_eq_false e] at w
      refine call_of (w) rfl (by simp) ?_
      try simp -dsimp
      try (first | exact fp_one (by decide) | refine fp_and (by decide) ?_)
      rintro rfl
      rw [ha] at hb
      cases hb
      exact e rfl
  · have h2 : i = xs.length := by omega
    subst h2
    rw [List.take_length, List.take_of_length_le (by omega)] at ht
    exact ht
/-! codes -/
theorem s_gcode (f a b c : Int) (l : List G6) (hl : l.length ≤ 1048576) (T : Bool) (hT : T = cdec (grp f a b c l)) : Sp Try.prog 171 [vi f, aL a b c, .v (.sl 0 [vgs l])] (vi (if 0 ≤ f ∧ f ≤ 1 ∧ okL a b c = true then (if T = true then 0 else 2) else 1)) [] := by
  refine sp_of (m := no) mixed Try.func171 k171 ?_
  have w0 := s_fcode f a b c
  by_cases h : 0 ≤ f ∧ f ≤ 1 ∧ okL a b c = true
  case neg =>
    rw [if_neg h] at *
    simp -dsimp [q]
    refine call_of (w0) rfl (by simp) ?_
    try simp -dsimp
    try (first | exact fp_one (by decide) | refine fp_and (by decide) ?_)
  rw [if_pos h] at *
  have w1 := s_isGrp f a b c l ⟨h.1, h.2.1⟩ h.2.2 hl
  rw [← hT] at w1
  simp -dsimp [q]
  refine call_of (w0) rfl (by simp) ?_
  try simp -dsimp
  try (first | exact fp_one (by decide) | refine fp_and (by decide) ?_)
  refine awp_it (true :: false :: false :: false :: true :: false :: false :: false :: false :: false :: false :: false :: false :: false :: false :: false :: true :: true :: true :: []) (fun i : Nat => [(18, vi i)]) (fun i => []) (fun i => i ≤ 1 ∧ (i = 1 → T = true)) (fun i => 1 - i) 0 ?_
  intro s0 e
  simp -dsimp at e
  subst e
  refine ⟨?_, ?_⟩
  · simp
  rintro i ⟨hi, hk⟩
  simp -dsimp
  refine ⟨fun h1 => ?_, fun h1 => ?_⟩
  · have : i = 0 := by omega
    subst this
    simp -dsimp
    refine call_of (w1) rfl (by simp) ?_
    try simp -dsimp
    try (first | exact fp_one (by decide) | refine fp_and (by decide) ?_)
    cases T
    · simp -dsimp
    · simp -dsimp
      exact ⟨1, by rw [w64 (by omega) (by omega)]; simp, by omega, by omega⟩
  · have := hk (by omega)
    subst this
    simp -dsimp
def cellB (a c : Int) (v : Int × Int) : Bool := decide (0 ≤ v.1 ∧ v.1 ≤ a - 1) && decide (0 ≤ v.2 ∧ v.2 ≤ c - 1)
theorem s_isCell (a b c x y : Int) (ha : 1 ≤ a ∧ a ≤ 64) (hc : 1 ≤ c ∧ c ≤ 64) : Sp Try.prog 173 [aL a b c, aV x y] (vb (cellB a c (x, y))) [] := by
  refine sp_of (m := no) mixed Try.func173 k173 ?_
  have w1 := s_within x 0 (a - 1)
  have w2 := s_within y 0 (c - 1)
  unfold cellB
  simp only
  generalize decide (0 ≤ x ∧ x ≤ a - 1) = b1 at *
  generalize decide (0 ≤ y ∧ y ≤ c - 1) = b2 at *
  simp -dsimp [q]
  rw [w64 (by omega) (by omega)]
  refine call_of (w1) rfl (by simp) ?_
  try simp -dsimp
  try (first | exact fp_one (by decide) | refine fp_and (by decide) ?_)
  cases b1
  · simp -dsimp
  simp -dsimp
  rw [w64 (by omega) (by omega)]
  refine call_of (w2) rfl (by simp) ?_
  try simp -dsimp
  try (first | exact fp_one (by decide) | refine fp_and (by decide) ?_)
theorem s_sisCell (a b c x y : Int) : ∃ T, Sp Try.prog 108 [aL a b c, aV x y] (vb T) [] ∧ (okL a b c = true → T = cellB a c (x, y)) := by
  refine ⟨decide (0 ≤ x ∧ x ≤ IntKind.i64.wrap (a - 1)) && decide (0 ≤ y ∧ y ≤ IntKind.i64.wrap (c - 1)), ?_, fun h => ?_⟩
  · refine sp_of (m := no) mixed Try.func108 k108 ?_
    have w1 := s_in x 0 (IntKind.i64.wrap (a - 1))
    have w2 := s_in y 0 (IntKind.i64.wrap (c - 1))
    generalize decide (0 ≤ x ∧ x ≤ IntKind.i64.wrap (a - 1)) = b1 at *
    generalize decide (0 ≤ y ∧ y ≤ IntKind.i64.wrap (c - 1)) = b2 at *
    simp -dsimp [q]
    refine call_of (w1) rfl (by simp) ?_
    try simp -dsimp
    try (first | exact fp_one (by decide) | refine fp_and (by decide) ?_)
    cases b1
    · simp -dsimp
    simp -dsimp
    refine call_of (w2) rfl (by simp) ?_
    try simp -dsimp
    try (first | exact fp_one (by decide) | refine fp_and (by decide) ?_)
  · obtain ⟨ha, hc, _, _⟩ := okL_spec.1 h
    rw [w64 (by omega) (by omega), w64 (by omega) (by omega)]
    rfl
theorem s_ccode1 (a b c x y : Int) (ha : 1 ≤ a ∧ a ≤ 64) (hc : 1 ≤ c ∧ c ≤ 64) : Sp Try.prog 172 [aV x y, .fq [.int .i64 a, .int .i64 b, .int .i64 c]] (vb (!cellB a c (x, y))) [] := by
  refine sp_of (m := no) mixed Try.func172 k172 ?_
  simp -dsimp [q]
  refine call_of (s_isCell a b c x y ha hc) rfl (by simp) ?_
  try simp -dsimp
  try (first | exact fp_one (by decide) | refine fp_and (by decide) ?_)
theorem s_ccode (f a b c : Int) (l : List G6) (vs' : List (Int × Int)) (hl : l.length ≤ 1048576) (hv : vs'.length ≤ 1048576) (T : Bool) (hT : T = cdec (grp f a b c l)) : Sp Try.prog 109 [vi f, aL a b c, .v (vgs l), .v (vvs vs')] (vi (if 0 ≤ f ∧ f ≤ 1 ∧ okL a b c = true then (if T = true then (if vs'.all (cellB a c) = true then 0 else 2) else 2) else 1)) [] := by
  refine sp_of (m := no) mixed Try.func109 k109 ?_
  have w0 := s_gcode f a b c l hl T hT
  by_cases h : 0 ≤ f ∧ f ≤ 1 ∧ okL a b c = true
  case neg =>
    rw [if_neg h] at *
    simp -dsimp [q]
    refine call_of (w0) rfl (by simp) ?_
    try simp -dsimp
    try (first | exact fp_one (by decide) | refine fp_and (by decide) ?_)
  rw [if_pos h] at *
  obtain ⟨ha, hc, _, _⟩ := okL_spec.1 h.2.2
  have w1 := s_hasV vs' 172 [.fq [.int .i64 a, .int .i64 b, .int .i64 c]] (fun v => !cellB a c v) hv rfl (fun v _ => s_ccode1 a b c v.1 v.2 ha hc)
  have e : (vs'.any fun v => !cellB a c v) = !(vs'.all (cellB a c)) := by rw [← all_not_any vs' (cellB a c), Bool.not_not]
  rw [e] at w1
  generalize vs'.all (cellB a c) = A at *
  simp -dsimp [q]
  refine call_of (w0) rfl (by simp) ?_
  try simp -dsimp
  try (first | exact fp_one (by decide) | refine fp_and (by decide) ?_)
  cases T
  · simp -dsimp
  simp -dsimp
  refine call_of (w1) rfl (by simp) ?_
  try simp -dsimp
  try (first | exact fp_one (by decide) | refine fp_and (by decide) ?_)
theorem s_s7code (f a b c : Int) (l : List G6) (t : Bool) (hl : l.length ≤ 1048576) (T : Bool) (hT : T = cdec (grp f a b c l)) : Sp Try.prog 107 [vi f, aL a b c, .v (vgs l), vb t] (vi (if 0 ≤ f ∧ f ≤ 1 ∧ okL a b c = true then (if (t && T) = true then 0 else 2) else 1)) [] := by
  refine sp_of (m := no) mixed Try.func107 k107 ?_
  by_cases h : 0 ≤ f ∧ f ≤ 1 ∧ okL a b c = true
  case neg =>
    have w0 := s_sisGrp f a b c l hl false (by simp [h])
    have w1 := s_s6code f a b c false
    rw [if_neg h] at *
    simp -dsimp [q]
    cases t
    · simp -dsimp
      refine call_of (w1) rfl (by simp) ?_
      try simp -dsimp
      try (first | exact fp_one (by decide) | refine fp_and (by decide) ?_)
    · simp -dsimp
      refine call_of (w0) rfl (by simp) ?_
      try simp -dsimp
      try (first | exact fp_one (by decide) | refine fp_and (by decide) ?_)
      refine call_of (w1) rfl (by simp) ?_
      try simp -dsimp
      try (first | exact fp_one (by decide) | refine fp_and (by decide) ?_)
  have w0 := s_sisGrp f a b c l hl T (by rw [hT, cdec_true, and_iff_right h])
  have w1 := s_s6code f a b c (t && T)
  rw [if_pos h] at *
  simp -dsimp [q]
  cases t
  · simp -dsimp
    refine call_of (w1) rfl (by simp) ?_
    try simp -dsimp
    try (first | exact fp_one (by decide) | refine fp_and (by decide) ?_)
  · simp -dsimp
    refine call_of (w0) rfl (by simp) ?_
    try simp -dsimp
    try (first | exact fp_one (by decide) | refine fp_and (by decide) ?_)
    refine call_of (w1) rfl (by simp) ?_
    try simp -dsimp
    try (first | exact fp_one (by decide) | refine fp_and (by decide) ?_)
end Go.Proofs.YtihkjljafjhniaaEv
namespace Go.Proofs.YtihkjljafjhniaaEv
open Go Go.Proofs
set_option maxRecDepth 10000
set_option maxHeartbeats 1000000
theorem get_findIdx {α : Type} (p : α → Bool) : ∀ l : List α, l[l.findIdx p]? = l.find? p
  | [] => rfl
  | x :: l => by
    rw [List.findIdx_cons, List.find?_cons]
    cases h : p x
    · simpa using get_findIdx p l
    · simp
theorem s_fiG (l : List G6) (f : Nat) (cs : List A) (p : G6 → Bool) (h : l.length ≤ 1048576) (hc : cs.all A.shut = true) (hf : ∀ v ∈ l, Sp Try.prog f (aG6 v :: cs) (vb (p v)) []) : Sp Try.prog 110 [.v (vgs l), .fn f cs] (vi (if l.any p = true then l.findIdx p else -1)) [] := by
  refine sp_of (m := no) mixed Try.func110 k110 ?_
  simp -dsimp [q, -Prod.forall, -Prod.exists]
  refine awp_it (true :: true :: false :: false :: false :: false :: false :: true :: true :: []) (fun i : Nat => [(8, vi i)]) (fun i => []) (fun i => i ≤ l.length ∧ ∀ x ∈ l.take i, p x = false) (fun i => l.length - i) 0 ?_
  intro s0 e
  simp -dsimp [hc] at e
  subst e
  refine ⟨?_, ?_⟩
  · simp [hc]
  rintro i ⟨hi, hi2⟩
  simp -dsimp [hc, -Prod.forall, -Prod.exists]
  refine ⟨fun h1 => ⟨h1, fun x ha => call_of (rd := []) (hf x (List.mem_of_getElem? ha)) (by simp [toArgs_shut hc]) (by simp) ?_⟩, fun h1 => ?_⟩
  · simp -dsimp [hc, -Prod.forall, -Prod.exists]
    obtain ⟨_, hal⟩ := List.getElem?_eq_some_iff.1 ha
    refine ⟨fun hp => ?_, fun hp => ⟨i + 1, by rw [w64 (by omega) (by omega)]; simp, ⟨by omega, fun x' hx => ?_⟩, by omega⟩⟩
    · rw [if_pos ⟨x, List.mem_of_getElem? ha, hp⟩, (List.findIdx_eq h1).2 ⟨by rw [hal]; exact hp, fun j hj => hi2 _ (List.mem_iff_getElem.2 ⟨j, by simp; omega, by simp⟩)⟩]
    · rw [List.take_add_one, ha] at hx
      rcases List.mem_append.1 hx with hx | hx
      · exact hi2 _ hx
      · simp only [Option.toList_some, List.mem_singleton] at hx; rw [hx]; exact hp
  · rw [List.take_of_length_le h1] at hi2
    exact hi2
theorem ite_and_two {p q : Prop} [Decidable p] [Decidable q] (h : ¬ (p ∧ q)) : (if p then (if q then (0 : Int) else 2) else 2) = 2 := by
  split
  · rw [if_neg (fun hq => h ⟨by assumption, hq⟩)]
  · rfl
def mvB (a b c : Int) (u v : Int × Int) (g : G6) : Bool := decide (mvV a b c g u = v)
theorem mvB_cdec (a b c x y x' y' : Int) (g : G6) : cdec ((mvV a b c g (x, y)).1 = x' ∧ (mvV a b c g (x, y)).2 = y') = mvB a b c (x, y) (x', y') g := by
  rw [Bool.eq_iff_iff, cdec_true, mvB, decide_eq_true_iff]
  exact ⟨fun h => Prod.ext h.1 h.2, fun h => ⟨congrArg Prod.fst h, congrArg Prod.snd h⟩⟩
theorem s_mv1 (a b c : Int) (g : G6) (x y x' y' : Int) (hg : smallG g) (ha : 1 ≤ a ∧ a ≤ 64) (hb : 0 ≤ b ∧ b < a) (hc : 1 ≤ c ∧ c ≤ 64) (hx : x.natAbs ≤ 1000 ∧ y.natAbs ≤ 1000) : Sp Try.prog 111 [aG6 g, .fq [.int .i64 a, .int .i64 b, .int .i64 c], .fq [.int .i64 x, .int .i64 y], .fq [.int .i64 x', .int .i64 y']] (vb (mvB a b c (x, y) (x', y') g)) [] := by
  refine sp_of (m := no) mixed Try.func111 k111 ?_
  simp -dsimp [q]
  refine call_of (s_take a b c g x y hg ha hb hc hx) rfl (by simp) ?_
  try simp -dsimp
  try (first | exact fp_one (by decide) | refine fp_and (by decide) ?_)
  exact mvB_cdec a b c x y x' y' g
theorem grp_small {f a b c : Int} {l : List G6} (hf : 0 ≤ f ∧ f ≤ 1) (ha : 1 ≤ a ∧ a ≤ 64) (hc : 1 ≤ c ∧ c ≤ 64) (h : grp f a b c l) : ∀ g ∈ l, smallG g := fun g hg => by
  have h1 := h.1.1 g (by rw [List.take_length]; exact hg)
  exact (suit_small hf ((elG_suit hf ha hc).1 h1).1).1
theorem cell_small {a c : Int} (ha : 1 ≤ a ∧ a ≤ 64) (hc : 1 ≤ c ∧ c ≤ 64) {x y : Int} (h : cellB a c (x, y) = true) : x.natAbs ≤ 1000 ∧ y.natAbs ≤ 1000 := by
  simp only [cellB, Bool.and_eq_true, decide_eq_true_eq] at h
  omega
def mvR (o : Option G6) : G6 × Int := match o with
  | some g => (g, 0)
  | none => (((0, 0, 0, 0), 0, 0), 4)
theorem s_mover (f a b c : Int) (l : List G6) (x y x' y' : Int) (h : 0 ≤ f ∧ f ≤ 1 ∧ okL a b c = true) (hl : l.length ≤ 1048576) (hG : grp f a b c l) (h1 : cellB a c (x, y) = true) (h2 : cellB a c (x', y') = true) : Sp Try.prog 42 [vi f, aL a b c, .v (vgs l), aV x y, aV x' y'] (.tu [aG6 (mvR (l.find? (mvB a b c (x, y) (x', y')))).1, vi (mvR (l.find? (mvB a b c (x, y) (x', y')))).2]) [] := by
  refine sp_of (m := no) mixed Try.func42 k42 ?_
  obtain ⟨ha, hc, hb, _⟩ := okL_spec.1 h.2.2
  have w0 := s_ccode f a b c l [(x, y), (x', y')] hl (by simp) true (cdec_t hG).symm
  rw [if_pos h, if_pos rfl, if_pos (by simp [h1, h2])] at w0
  have hs := cell_small ha hc h1
  have w1 := s_fiG l 111 [.fq [.int .i64 a, .int .i64 b, .int .i64 c], .fq [.int .i64 x, .int .i64 y], .fq [.int .i64 x', .int .i64 y']] (mvB a b c (x, y) (x', y')) hl rfl (fun g hg => s_mv1 a b c g x y x' y' (grp_small ⟨h.1, h.2.1⟩ ha hc hG g hg) ha hb hc hs)
  have hgf := get_findIdx (mvB a b c (x, y) (x', y')) l
  simp -dsimp [q]
  refine call_of ((w0 : Sp Try.prog _ [vi f, aL a b c, .v (vgs l), .v (.sl 2 [.ag [.int .i64 x, .int .i64 y], .ag [.int .i64 x', .int .i64 y']])] _ _)) rfl (by simp) ?_
  try simp -dsimp
  try (first | exact fp_one (by decide) | refine fp_and (by decide) ?_)
  cases ho : l.find? (mvB a b c (x, y) (x', y')) with
  | none =>
    rw [if_neg (by simpa using List.find?_eq_none.1 ho)] at w1
    refine call_of (w1) rfl (by simp) ?_
    try simp -dsimp
    try (first | exact fp_one (by decide) | refine fp_and (by decide) ?_)
    exact ⟨⟨rfl, rfl, rfl, rfl, rfl, rfl⟩, rfl⟩
  | some g =>
    have hm := List.find?_some ho
    have hlt : l.findIdx (mvB a b c (x, y) (x', y')) < l.length := by
      rw [ho] at hgf
      exact (List.getElem?_eq_some_iff.1 hgf).1
    rw [if_pos (List.any_eq_true.2 ⟨g, List.mem_of_find?_eq_some ho, hm⟩)] at w1
    rw [ho] at hgf
    refine call_of (w1) rfl (by simp) ?_
    try simp -dsimp
    try (first | exact fp_one (by decide) | refine fp_and (by decide) ?_)
    refine ⟨fun hneg => by omega, ⟨g.1.1, g.1.2.1, g.1.2.2.1, g.1.2.2.2, g.2.1, g.2.2, List.mem_of_find?_eq_some ho, hm⟩, fun q1 q2 q3 q4 q5 q6 hq => ?_⟩
    rw [hgf] at hq
    cases hq
    exact ⟨⟨rfl, rfl, rfl, rfl, rfl, rfl⟩, rfl⟩
theorem s_smover (f a b c : Int) (l : List G6) (x y x' y' : Int) (h : 0 ≤ f ∧ f ≤ 1 ∧ okL a b c = true) (hl : l.length ≤ 1048576) (hG : grp f a b c l) (h1 : cellB a c (x, y) = true) (h2 : cellB a c (x', y') = true) : Sp Try.prog 39 [vi f, aL a b c, .v (vgs l), aV x y, aV x' y'] (.tu [aG6 (mvR (l.find? (mvB a b c (x, y) (x', y')))).1, vi (mvR (l.find? (mvB a b c (x, y) (x', y')))).2]) [] := by
  refine sp_of (m := no) mixed Try.func39 k39 ?_
  obtain ⟨ha, hc, hb, _⟩ := okL_spec.1 h.2.2
  obtain ⟨T1, w1, t1⟩ := s_sisCell a b c x y
  obtain ⟨T2, w2, t2⟩ := s_sisCell a b c x' y'
  rw [t1 h.2.2, h1] at w1
  rw [t2 h.2.2, h2] at w2
  have w0 := s_s7code f a b c l true hl true (cdec_t hG).symm
  rw [if_pos h, if_pos (show (true && true) = true from rfl)] at w0
  have hs := cell_small ha hc h1
  have hsm := grp_small ⟨h.1, h.2.1⟩ ha hc hG
  simp -dsimp [q]
  refine call_of (w1) rfl (by simp) ?_
  try simp -dsimp
  try (first | exact fp_one (by decide) | refine fp_and (by decide) ?_)
  refine call_of (w2) rfl (by simp) ?_
  try simp -dsimp
  try (first | exact fp_one (by decide) | refine fp_and (by decide) ?_)
  refine call_of (w0) rfl (by simp) ?_
  try simp -dsimp
  try (first | exact fp_one (by decide) | refine fp_and (by decide) ?_)
  refine awp_it (false :: false :: true :: false :: false :: false :: true :: false :: true :: true :: true :: false :: false :: true :: []) (fun i : Nat => [(13, vi i)]) (fun i => []) (fun i => i ≤ l.length ∧ ∀ g ∈ l.take i, mvB a b c (x, y) (x', y') g = false) (fun i => l.length - i) 0 ?_
  intro s0 e
  simp -dsimp at e
  subst e
  refine ⟨?_, ?_⟩
  · simp
  rintro i ⟨hi, hk⟩
  simp -dsimp [-Prod.forall, -Prod.exists]
  refine ⟨fun hi1 => ⟨hi1, fun g hg => ?_⟩, fun hi1 => ?_⟩
  · have w3 := s_smove a b c g x y (hsm g (List.mem_of_getElem? hg)) ha hb hc hs
    have hcd := mvB_cdec a b c x y x' y' g
    refine call_of w3 rfl (by simp) ?_
    simp -dsimp [hcd, -Prod.forall, -Prod.exists]
    try (first | exact fp_one (by decide) | refine fp_and (by decide) ?_)
    refine ⟨fun hp => ⟨hi1, fun g' hg' => ?_⟩, fun hp => ⟨i + 1, by rw [w64 (by omega) (by omega)]; simp, ⟨by omega, fun g' hg' => ?_⟩, by omega⟩⟩
    · rw [hg] at hg'
      cases hg'
      rw [find_hit hg hp hk]
      exact ⟨⟨rfl, rfl, rfl, rfl, rfl, rfl⟩, rfl⟩
    · rcases mem_take_succ hg hg' with hg' | hg'
      · exact hk g' hg'
      · rw [hg']; exact hp
  · rw [find_miss (p := mvB a b c (x, y) (x', y')) hi1 hk]
    exact ⟨⟨rfl, rfl, rfl, rfl, rfl, rfl⟩, rfl⟩
theorem mover_both (f a b c : Int) (l : List G6) (x y x' y' : Int) (hl : l.length ≤ 1048576) : ∃ g k, Sp Try.prog 39 [vi f, aL a b c, .v (vgs l), aV x y, aV x' y'] (.tu [aG6 g, vi k]) [] ∧ Sp Try.prog 42 [vi f, aL a b c, .v (vgs l), aV x y, aV x' y'] (.tu [aG6 g, vi k]) [] := by
  obtain ⟨T1, w1, t1⟩ := s_sisCell a b c x y
  obtain ⟨T2, w2, t2⟩ := s_sisCell a b c x' y'
  by_cases h : 0 ≤ f ∧ f ≤ 1 ∧ okL a b c = true
  case neg =>
    refine ⟨((0, 0, 0, 0), 0, 0), 1, ?_, ?_⟩
    · refine sp_of (m := no) mixed Try.func39 k39 ?_
      have w0 := s_s7code f a b c l (T1 && T2) hl _ rfl
      rw [if_neg h] at w0
      simp -dsimp [q]
      refine call_of (w1) rfl (by simp) ?_
      try simp -dsimp
      try (first | exact fp_one (by decide) | refine fp_and (by decide) ?_)
      cases T1
      · simp -dsimp
        refine call_of (w0) rfl (by simp) ?_
        try simp -dsimp
        try (first | exact fp_one (by decide) | refine fp_and (by decide) ?_)
      · simp -dsimp
        refine call_of (w2) rfl (by simp) ?_
        try simp -dsimp
        try (first | exact fp_one (by decide) | refine fp_and (by decide) ?_)
        refine call_of (w0) rfl (by simp) ?_
        try simp -dsimp
        try (first | exact fp_one (by decide) | refine fp_and (by decide) ?_)
    · refine sp_of (m := no) mixed Try.func42 k42 ?_
      have w0 := s_ccode f a b c l [(x, y), (x', y')] hl (by simp) _ rfl
      rw [if_neg h] at w0
      simp -dsimp [q]
      refine call_of ((w0 : Sp Try.prog _ [vi f, aL a b c, .v (vgs l), .v (.sl 2 [.ag [.int .i64 x, .int .i64 y], .ag [.int .i64 x', .int .i64 y']])] _ _)) rfl (by simp) ?_
      try simp -dsimp
      try (first | exact fp_one (by decide) | refine fp_and (by decide) ?_)
  by_cases hb : grp f a b c l ∧ cellB a c (x, y) = true ∧ cellB a c (x', y') = true
  case pos => exact ⟨_, _, s_smover f a b c l x y x' y' h hl hb.1 hb.2.1 hb.2.2, s_mover f a b c l x y x' y' h hl hb.1 hb.2.1 hb.2.2⟩
  refine ⟨((0, 0, 0, 0), 0, 0), 2, ?_, ?_⟩
  · refine sp_of (m := no) mixed Try.func39 k39 ?_
    have w0 := s_s7code f a b c l (T1 && T2) hl _ rfl
    rw [if_pos h, if_neg (by
      rw [t1 h.2.2, t2 h.2.2, Bool.and_eq_true, Bool.and_eq_true, cdec_true]
      exact fun e => hb ⟨e.2, e.1⟩)] at w0
    simp -dsimp [q]
    refine call_of (w1) rfl (by simp) ?_
    try simp -dsimp
    try (first | exact fp_one (by decide) | refine fp_and (by decide) ?_)
    cases T1
    · simp -dsimp
      refine call_of (w0) rfl (by simp) ?_
      try simp -dsimp
      try (first | exact fp_one (by decide) | refine fp_and (by decide) ?_)
    · simp -dsimp
      refine call_of (w2) rfl (by simp) ?_
      try simp -dsimp
      try (first | exact fp_one (by decide) | refine fp_and (by decide) ?_)
      refine call_of (w0) rfl (by simp) ?_
      try simp -dsimp
      try (first | exact fp_one (by decide) | refine fp_and (by decide) ?_)
  · refine sp_of (m := no) mixed Try.func42 k42 ?_
    have w0 := s_ccode f a b c l [(x, y), (x', y')] hl (by simp) _ rfl
    rw [if_pos h, ite_and_two (fun e => hb ⟨cdec_true.1 e.1, by simpa using e.2⟩)] at w0
    simp -dsimp [q]
    refine call_of ((w0 : Sp Try.prog _ [vi f, aL a b c, .v (vgs l), .v (.sl 2 [.ag [.int .i64 x, .int .i64 y], .ag [.int .i64 x', .int .i64 y']])] _ _)) rfl (by simp) ?_
    try simp -dsimp
    try (first | exact fp_one (by decide) | refine fp_and (by decide) ?_)
end Go.Proofs.YtihkjljafjhniaaEv
namespace Go.Proofs.YtihkjljafjhniaaEv
open Go Go.Proofs
set_option maxRecDepth 10000
set_option maxHeartbeats 1000000
theorem gs_mget (M R : List G6) (g : G6) : (gs (M ++ g :: R))[M.length]? = some (.ag [.int .i64 g.1.1, .int .i64 g.1.2.1, .int .i64 g.1.2.2.1, .int .i64 g.1.2.2.2, .int .i64 g.2.1, .int .i64 g.2.2]) := by
  simp [gs, vg]
theorem gs_mset (M R : List G6) (g : G6) (a b c d x y : Int) : (gs (M ++ g :: R)).set M.length (.ag [.int .i64 a, .int .i64 b, .int .i64 c, .int .i64 d, .int .i64 x, .int .i64 y]) = gs (M ++ ((a, b, c, d), x, y) :: R) := by
  simp [gs, vg]
theorem gs_mgetI (M R : List G6) (g : G6) : (gs (M ++ g :: R))[((M.length : Nat) : Int).toNat]? = some (.ag [.int .i64 g.1.1, .int .i64 g.1.2.1, .int .i64 g.1.2.2.1, .int .i64 g.1.2.2.2, .int .i64 g.2.1, .int .i64 g.2.2]) := by
  rw [Int.toNat_natCast, gs_mget]
theorem gs_msetI (M R : List G6) (g : G6) (a b c d x y : Int) : (gs (M ++ g :: R)).set ((M.length : Nat) : Int).toNat (.ag [.int .i64 a, .int .i64 b, .int .i64 c, .int .i64 d, .int .i64 x, .int .i64 y]) = gs (M ++ ((a, b, c, d), x, y) :: R) := by
  rw [Int.toNat_natCast, gs_mset]
def mkG (k : Int) (n : Nat) : List G6 := (List.range n).map fun i : Nat => ((k + 6 * i, k + 6 * i + 1, k + 6 * i + 2, k + 6 * i + 3), k + 6 * i + 4, k + 6 * i + 5)
theorem mkG_len (k : Int) (n : Nat) : (mkG k n).length = n := by simp [mkG]
theorem mkG_succ (k : Int) (n : Nat) : mkG k (n + 1) = mkG k n ++ [((k + 6 * n, k + 6 * n + 1, k + 6 * n + 2, k + 6 * n + 3), k + 6 * n + 4, k + 6 * n + 5)] := by simp [mkG, List.range_succ]
theorem s_markGS (l : List G6) (k : Int) (t : Nat) (hx : l.length ≤ 1048576) (hk : 0 ≤ k ∧ k ≤ 1000000000) : SpG Try.prog 47 [.sli 0, vi k] [.row 6 t (gs l)] (vi (k + 6 * l.length)) [.row 6 t (gs (mkG k l.length))] := by
  refine sg_of (m := no) mixed Try.func47 k47 ?_
  simp -dsimp [q]
  refine awp_it (true :: true :: false :: false :: false :: true :: []) (fun i : Nat => [(1, vi (k + 6 * i)), (5, vi i)]) (fun i => [(0, .row 6 t (gs (mkG k i ++ l.drop i)))]) (fun i => i ≤ l.length) (fun i => l.length - i) 0 ?_
  intro s0 e
  simp -dsimp at e
  subst e
  refine ⟨?_, ?_⟩
  · simp [mkG]
  intro i hi
  have hlen : (mkG k i ++ l.drop i).length = l.length := by simp [mkG_len]; omega
  by_cases h1 : i < l.length
  case neg =>
    have : i = l.length := by omega
    subst this
    simp -dsimp [mkG_len]
  have hd := List.drop_eq_getElem_cons h1
  have hml := mkG_len k i
  have hms := mkG_succ k i
  have e1 : IntKind.i64.wrap (k + 6 * (i : Int) + 1) = k + 6 * i + 1 := w64 (by omega) (by omega)
  have e2 : IntKind.i64.wrap (k + 6 * (i : Int) + 1 + 1) = k + 6 * i + 2 := by rw [w64 (by omega) (by omega)]; omega
  have e3 : IntKind.i64.wrap (k + 6 * (i : Int) + 2 + 1) = k + 6 * i + 3 := by rw [w64 (by omega) (by omega)]; omega
  have e4 : IntKind.i64.wrap (k + 6 * (i : Int) + 3 + 1) = k + 6 * i + 4 := by rw [w64 (by omega) (by omega)]; omega
  have e5 : IntKind.i64.wrap (k + 6 * (i : Int) + 4 + 1) = k + 6 * i + 5 := by rw [w64 (by omega) (by omega)]; omega
  have e6 : IntKind.i64.wrap (k + 6 * (i : Int) + 5 + 1) = k + 6 * (i + 1) := by rw [w64 (by omega) (by omega)]; omega
  have e7 : IntKind.i64.wrap ((i : Int) + 1) = (i : Int) + 1 := w64 (by omega) (by omega)
  rw [hd] at *
  generalize l[i] = g at *
  generalize hM : mkG k i = M at *
  generalize hR : l.drop (i + 1) = R at *
  subst hml
  simp -dsimp [↓gs_mget, ↓gs_mset, ↓gs_mgetI, ↓gs_msetI, gs_msetI, gs_mset, e1, e2, e3, e4, e5, e6, e7, -gs_get, -gs_set, h1]
  refine ⟨fun _ => ⟨by omega, M.length + 1, ⟨⟨by omega, by omega⟩, ?_⟩, by omega, by omega⟩, fun h => by omega⟩
  rw [hms, hR]
  simp
theorem mkG_get {k : Int} {n i : Nat} (h : i < n) : (mkG k n)[i]? = some ((k + 6 * i, k + 6 * i + 1, k + 6 * i + 2, k + 6 * i + 3), k + 6 * i + 4, k + 6 * i + 5) := by
  simp [mkG, h]
theorem s_heldGS (l : List G6) (k : Int) (t : Nat) (hx : l.length ≤ 1048576) (hk : 0 ≤ k ∧ k ≤ 1000000000) (hh : l = mkG k l.length) : SpG Try.prog 48 [.sli 0, vi k] [.row 6 t (gs l)] (vi (k + 6 * l.length)) [.row 6 t (gs l)] := by
  refine sg_of (m := no) mixed Try.func48 k48 ?_
  simp -dsimp [q]
  refine awp_it (true :: true :: false :: false :: false :: true :: []) (fun i : Nat => [(1, vi (k + 6 * i)), (5, vi i)]) (fun i => []) (fun i => i ≤ l.length) (fun i => l.length - i) 0 ?_
  intro s0 e
  simp -dsimp at e
  subst e
  refine ⟨?_, ?_⟩
  · simp
  intro i hi
  by_cases h1 : i < l.length
  case neg =>
    have : i = l.length := by omega
    subst this
    simp -dsimp
  have hg : l[i]? = some ((k + 6 * i, k + 6 * i + 1, k + 6 * i + 2, k + 6 * i + 3), k + 6 * i + 4, k + 6 * i + 5) := by
    have := mkG_get (k := k) (n := l.length) h1
    rwa [← hh] at this
  have hg2 : (gs l)[((i : Nat) : Int).toNat]? = some (.ag [.int .i64 (k + 6 * i), .int .i64 (k + 6 * i + 1), .int .i64 (k + 6 * i + 2), .int .i64 (k + 6 * i + 3), .int .i64 (k + 6 * i + 4), .int .i64 (k + 6 * i + 5)]) := by
    rw [Int.toNat_natCast]
    simp [gs, hg, vg]
  have hg3 : (gs l)[i]? = some (.ag [.int .i64 (k + 6 * i), .int .i64 (k + 6 * i + 1), .int .i64 (k + 6 * i + 2), .int .i64 (k + 6 * i + 3), .int .i64 (k + 6 * i + 4), .int .i64 (k + 6 * i + 5)]) := by
    simp [gs, hg, vg]
  have e1 : IntKind.i64.wrap (k + 6 * (i : Int) + 1) = k + 6 * i + 1 := w64 (by omega) (by omega)
  have e2 : IntKind.i64.wrap (k + 6 * (i : Int) + 1 + 1) = k + 6 * i + 2 := by rw [w64 (by omega) (by omega)]; omega
  have e3 : IntKind.i64.wrap (k + 6 * (i : Int) + 2 + 1) = k + 6 * i + 3 := by rw [w64 (by omega) (by omega)]; omega
  have e4 : IntKind.i64.wrap (k + 6 * (i : Int) + 3 + 1) = k + 6 * i + 4 := by rw [w64 (by omega) (by omega)]; omega
  have e5 : IntKind.i64.wrap (k + 6 * (i : Int) + 4 + 1) = k + 6 * i + 5 := by rw [w64 (by omega) (by omega)]; omega
  have e6 : IntKind.i64.wrap (k + 6 * (i : Int) + 5 + 1) = k + 6 * (i + 1) := by rw [w64 (by omega) (by omega)]; omega
  have e7 : IntKind.i64.wrap ((i : Int) + 1) = (i : Int) + 1 := w64 (by omega) (by omega)
  clear hh hg
  simp -dsimp [↓hg2, ↓hg3, e1, e2, e3, e4, e5, e6, e7, -gs_get, h1]
  exact ⟨i + 1, ⟨by omega, by omega⟩, by omega, by omega⟩
theorem s_markGS0 (k : Int) : SpG Try.prog 47 [.nil 6, vi k] [] (vi k) [] := by
  refine sg_of (m := no) mixed Try.func47 k47 ?_
  simp -dsimp [q]
  refine awp_it (true :: true :: false :: false :: false :: true :: []) (fun i : Nat => [(5, vi i)]) (fun i => []) (fun i => i = 0) (fun i => 0) 0 ?_
  intro s0 e
  simp -dsimp at e
  subst e
  refine ⟨?_, ?_⟩
  · simp
  rintro i rfl
  simp -dsimp
theorem s_heldGS0 (k : Int) : SpG Try.prog 48 [.nil 6, vi k] [] (vi k) [] := by
  refine sg_of (m := no) mixed Try.func48 k48 ?_
  simp -dsimp [q]
  refine awp_it (true :: true :: false :: false :: false :: true :: []) (fun i : Nat => [(5, vi i)]) (fun i => []) (fun i => i = 0) (fun i => 0) 0 ?_
  intro s0 e
  simp -dsimp at e
  subst e
  refine ⟨?_, ?_⟩
  · simp
  rintro i rfl
  simp -dsimp
/-! stabilisers -/
def stL (a b c : Int) (v : Int × Int) (l : List G6) : List G6 := l.filter (mvB a b c v v)
theorem stL_succ {a b c : Int} {v : Int × Int} {l : List G6} {i : Nat} {g : G6} (h : l[i]? = some g) : stL a b c v (l.take (i + 1)) = if mvB a b c v v g = true then stL a b c v (l.take i) ++ [g] else stL a b c v (l.take i) := by
  unfold stL
  rw [List.take_add_one, h, List.filter_append]
  cases hm : mvB a b c v v g <;> simp [hm]
theorem stL_len (a b c : Int) (v : Int × Int) (l : List G6) : (stL a b c v l).length ≤ l.length := List.length_filter_le _ _
theorem s_stab1 (a b c : Int) (l : List G6) (x y : Int) (ha : 1 ≤ a ∧ a ≤ 64) (hb : 0 ≤ b ∧ b < a) (hc : 1 ≤ c ∧ c ≤ 64) (hl : l.length ≤ 1048576) (hsm : ∀ g ∈ l, smallG g) (hx : x.natAbs ≤ 1000 ∧ y.natAbs ≤ 1000) : Sp Try.prog 97 [aL a b c, .v (vgs l), aV x y] (.sli 0) [.row 6 63 (gs (stL a b c (x, y) l))] := by
  refine sp_of (m := no) mixed Try.func97 k97 ?_
  simp -dsimp [q]
  refine awp_it (false :: false :: false :: true :: false :: true :: false :: true :: false :: false :: false :: true :: true :: true :: []) (fun i : Nat => [(13, vi i)]) (fun i => [(2, .row 6 63 (gs (stL a b c (x, y) (l.take i))))]) (fun i => i ≤ l.length) (fun i => l.length - i) 0 ?_
  intro s0 e
  simp -dsimp at e
  subst e
  refine ⟨?_, ?_⟩
  · simp [stL]
  intro i hi
  simp -dsimp [-Prod.forall, -Prod.exists]
  refine ⟨fun h1 => ⟨h1, fun g hg => ?_⟩, fun h1 => ?_⟩
  · have w3 := s_take a b c g x y (hsm g (List.mem_of_getElem? hg)) ha hb hc hx
    have hcd := mvB_cdec a b c x y x y g
    have hsl := stL_len a b c (x, y) (l.take i)
    have hss := stL_succ (a := a) (b := b) (c := c) (v := (x, y)) hg
    rw [List.length_take] at hsl
    refine call_of w3 rfl (by simp) ?_
    simp -dsimp [hcd, -Prod.forall, -Prod.exists]
    refine ⟨fun hp => ⟨⟨by omega, by omega⟩, i + 1, ⟨by rw [w64 (by omega) (by omega)]; simp, ?_⟩, by omega, by omega⟩, fun hp => ⟨i + 1, ⟨by rw [w64 (by omega) (by omega)]; simp, ?_⟩, by omega, by omega⟩⟩
    · rw [hss, if_pos hp]
    · rw [hss, if_neg (by rw [hp]; simp)]
  · have : i = l.length := by omega
    subst this
    simp
theorem s_stab (f a b c : Int) (l : List G6) (x y : Int) (h : 0 ≤ f ∧ f ≤ 1 ∧ okL a b c = true) (hl : l.length ≤ 1048576) (hG : grp f a b c l) (h1 : cellB a c (x, y) = true) : Sp Try.prog 46 [vi f, aL a b c, .v (vgs l), aV x y] (.tu [.sli 0, vi 0]) [.row 6 63 (gs (stL a b c (x, y) l))] := by
  refine sp_of (m := no) mixed Try.func46 k46 ?_
  obtain ⟨ha, hc, hb, _⟩ := okL_spec.1 h.2.2
  have w0 := s_ccode f a b c l [(x, y)] hl (by simp) true (cdec_t hG).symm
  rw [if_pos h, if_pos rfl, if_pos (by simp [h1])] at w0
  simp -dsimp [q]
  refine call_of ((w0 : Sp Try.prog _ [vi f, aL a b c, .v (vgs l), .v (.sl 2 [.ag [.int .i64 x, .int .i64 y]])] _ _)) rfl (by simp) ?_
  try simp -dsimp
  try (first | exact fp_one (by decide) | refine fp_and (by decide) ?_)
  refine call_of (s_stab1 a b c l x y ha hb hc hl (grp_small ⟨h.1, h.2.1⟩ ha hc hG) (cell_small ha hc h1)) rfl (by simp) ?_
  try simp -dsimp
  try (first | exact fp_one (by decide) | refine fp_and (by decide) ?_)
theorem s_sstab (f a b c : Int) (l : List G6) (x y : Int) (h : 0 ≤ f ∧ f ≤ 1 ∧ okL a b c = true) (hl : l.length ≤ 1048576) (hG : grp f a b c l) (h1 : cellB a c (x, y) = true) : Sp Try.prog 45 [vi f, aL a b c, .v (vgs l), aV x y] (.tu [.sli 0, vi 0]) [.row 6 63 (gs (stL a b c (x, y) l))] := by
  refine sp_of (m := no) mixed Try.func45 k45 ?_
  obtain ⟨ha, hc, hb, _⟩ := okL_spec.1 h.2.2
  obtain ⟨T1, w1, t1⟩ := s_sisCell a b c x y
  rw [t1 h.2.2, h1] at w1
  have w0 := s_s7code f a b c l true hl true (cdec_t hG).symm
  rw [if_pos h, if_pos (show (true && true) = true from rfl)] at w0
  have hs := cell_small ha hc h1
  have hsm := grp_small ⟨h.1, h.2.1⟩ ha hc hG
  simp -dsimp [q]
  refine call_of (w1) rfl (by simp) ?_
  try simp -dsimp
  try (first | exact fp_one (by decide) | refine fp_and (by decide) ?_)
  refine call_of (w0) rfl (by simp) ?_
  try simp -dsimp
  try (first | exact fp_one (by decide) | refine fp_and (by decide) ?_)
  refine awp_it (false :: false :: true :: false :: false :: true :: false :: true :: false :: false :: false :: true :: true :: []) (fun i : Nat => [(12, vi i)]) (fun i => [(2, .row 6 63 (gs (stL a b c (x, y) (l.take i))))]) (fun i => i ≤ l.length) (fun i => l.length - i) 0 ?_
  intro s0 e
  simp -dsimp at e
  subst e
  refine ⟨?_, ?_⟩
  · simp [stL]
  intro i hi
  simp -dsimp [-Prod.forall, -Prod.exists]
  refine ⟨fun hi1 => ⟨hi1, fun g hg => ?_⟩, fun hi1 => ?_⟩
  · have w3 := s_smove a b c g x y (hsm g (List.mem_of_getElem? hg)) ha hb hc hs
    have hcd := mvB_cdec a b c x y x y g
    have hsl := stL_len a b c (x, y) (l.take i)
    have hss := stL_succ (a := a) (b := b) (c := c) (v := (x, y)) hg
    rw [List.length_take] at hsl
    refine call_of w3 rfl (by simp) ?_
    simp -dsimp [hcd, -Prod.forall, -Prod.exists]
    refine ⟨fun hp => ⟨hi1, fun g' hg' => ?_⟩, fun hp => ⟨i + 1, ⟨by rw [w64 (by omega) (by omega)]; simp, ?_⟩, by omega, by omega⟩⟩
    · rw [hg] at hg'
      cases hg'
      refine ⟨⟨by omega, by omega⟩, i + 1, ⟨by rw [w64 (by omega) (by omega)]; simp, ?_⟩, by omega, by omega⟩
      rw [hss, if_pos hp]
    · rw [hss, if_neg (by rw [hp]; simp)]
  · have : i = l.length := by omega
    subst this
    simp
theorem stab_both (f a b c : Int) (l : List G6) (x y : Int) (hl : l.length ≤ 1048576) : (∃ r, r.length ≤ l.length ∧ Sp Try.prog 45 [vi f, aL a b c, .v (vgs l), aV x y] (.tu [.sli 0, vi 0]) [.row 6 63 (gs r)] ∧ Sp Try.prog 46 [vi f, aL a b c, .v (vgs l), aV x y] (.tu [.sli 0, vi 0]) [.row 6 63 (gs r)]) ∨
    ∃ k, Sp Try.prog 45 [vi f, aL a b c, .v (vgs l), aV x y] (.tu [.nil 6, vi k]) [] ∧ Sp Try.prog 46 [vi f, aL a b c, .v (vgs l), aV x y] (.tu [.nil 6, vi k]) [] := by
  obtain ⟨T1, w1, t1⟩ := s_sisCell a b c x y
  by_cases h : 0 ≤ f ∧ f ≤ 1 ∧ okL a b c = true
  case neg =>
    refine .inr ⟨1, ?_, ?_⟩
    · refine sp_of (m := no) mixed Try.func45 k45 ?_
      have w0 := s_s7code f a b c l T1 hl _ rfl
      rw [if_neg h] at w0
      simp -dsimp [q]
      refine call_of (w1) rfl (by simp) ?_
      try simp -dsimp
      try (first | exact fp_one (by decide) | refine fp_and (by decide) ?_)
      refine call_of (w0) rfl (by simp) ?_
      try simp -dsimp
      try (first | exact fp_one (by decide) | refine fp_and (by decide) ?_)
    · refine sp_of (m := no) mixed Try.func46 k46 ?_
      have w0 := s_ccode f a b c l [(x, y)] hl (by simp) _ rfl
      rw [if_neg h] at w0
      simp -dsimp [q]
      refine call_of ((w0 : Sp Try.prog _ [vi f, aL a b c, .v (vgs l), .v (.sl 2 [.ag [.int .i64 x, .int .i64 y]])] _ _)) rfl (by simp) ?_
      try simp -dsimp
      try (first | exact fp_one (by decide) | refine fp_and (by decide) ?_)
  by_cases hb : grp f a b c l ∧ cellB a c (x, y) = true
  case pos => exact .inl ⟨_, stL_len _ _ _ _ _, s_sstab f a b c l x y h hl hb.1 hb.2, s_stab f a b c l x y h hl hb.1 hb.2⟩
  refine .inr ⟨2, ?_, ?_⟩
  · refine sp_of (m := no) mixed Try.func45 k45 ?_
    have w0 := s_s7code f a b c l T1 hl _ rfl
    rw [if_pos h, if_neg (by
      rw [t1 h.2.2, Bool.and_eq_true, cdec_true]
      exact fun e => hb ⟨e.2, e.1⟩)] at w0
    simp -dsimp [q]
    refine call_of (w1) rfl (by simp) ?_
    try simp -dsimp
    try (first | exact fp_one (by decide) | refine fp_and (by decide) ?_)
    refine call_of (w0) rfl (by simp) ?_
    try simp -dsimp
    try (first | exact fp_one (by decide) | refine fp_and (by decide) ?_)
  · refine sp_of (m := no) mixed Try.func46 k46 ?_
    have w0 := s_ccode f a b c l [(x, y)] hl (by simp) _ rfl
    rw [if_pos h, ite_and_two (fun e => hb ⟨cdec_true.1 e.1, by simpa using e.2⟩)] at w0
    simp -dsimp [q]
    refine call_of ((w0 : Sp Try.prog _ [vi f, aL a b c, .v (vgs l), .v (.sl 2 [.ag [.int .i64 x, .int .i64 y]])] _ _)) rfl (by simp) ?_
    try simp -dsimp
    try (first | exact fp_one (by decide) | refine fp_and (by decide) ?_)
end Go.Proofs.YtihkjljafjhniaaEv
namespace Go.Proofs.YtihkjljafjhniaaEv
open Go Go.Proofs
set_option maxRecDepth 10000
theorem eu_out : ∀ (n : Nat) (h v : Int × Int), 0 < h.2 → 0 ≤ v.2 → v.2.natAbs ≤ n → (eu n h v).2.2 = 0 ∧ 0 < (eu n h v).1.2 ∧ (eu n h v).1.2 ∣ h.2 ∧ (eu n h v).1.2 ∣ v.2 ∧ ((eu n h v).1 = h ∨ (eu n h v).1 = v ∨ (eu n h v).1.1.natAbs * (2 * (eu n h v).1.2.natAbs) ≤ pot h v)
  | 0, h, v, hh, hv, hn => by
    have : v.2 = 0 := by omega
    rw [eu_zero this, this]
    exact ⟨rfl, hh, Int.dvd_refl _, Int.dvd_zero _, .inl rfl⟩
  | n + 1, h, v, hh, hv, hn => by
    by_cases hz : v.2 = 0
    · rw [eu_zero hz, hz]
      exact ⟨rfl, hh, Int.dvd_refl _, Int.dvd_zero _, .inl rfl⟩
    have hp := pot_step (h := h) (v := v)
    simp only [eu, if_neg hz]
    have e1 : h.2.tmod v.2 = h.2 % v.2 := Int.tmod_eq_emod_of_nonneg (by omega)
    have e2 := Int.emod_nonneg h.2 hz
    have e3 := Int.emod_lt_of_pos h.2 (show 0 < v.2 by omega)
    have e4 := Int.emod_add_mul_ediv h.2 v.2
    obtain ⟨i1, i2, i3, i4, i5⟩ := eu_out n v (h.1 - h.2.tdiv v.2 * v.1, h.2.tmod v.2) (by omega) (by simp only; omega) (by simp only; omega)
    generalize eu n v (h.1 - h.2.tdiv v.2 * v.1, h.2.tmod v.2) = r at *
    generalize hw : h.1 - h.2.tdiv v.2 * v.1 = w1 at *
    simp only at i4 i5 hp
    rw [e1] at i4 i5 hp
    refine ⟨i1, i2, ?_, i3, ?_⟩
    · rw [← e4]
      exact Int.dvd_add i4 (Int.dvd_trans i3 (Int.dvd_mul_right _ _))
    · rcases i5 with i5 | i5 | i5
      · exact .inr (.inl i5)
      · refine .inr (.inr (Nat.le_trans ?_ hp))
        rw [i5] at i2 i3 ⊢
        simp only at i2 i3 ⊢
        obtain ⟨m, hm⟩ := i3
        have hm2 : 2 ≤ m := by
          rcases Int.lt_or_le m 2 with hlt | hge
          · exfalso
            have : (h.2 % v.2 : Int) * m ≤ (h.2 % v.2) * 1 := Int.mul_le_mul_of_nonneg_left (by omega) (by omega)
            omega
          · exact hge
        have hv2 : 2 * (h.2 % v.2).natAbs ≤ v.2.natAbs := by
          have := Int.mul_le_mul_of_nonneg_left hm2 (show 0 ≤ h.2 % v.2 by omega)
          omega
        unfold pot
        exact Nat.le_trans (Nat.mul_le_mul_left _ hv2) (Nat.le_add_left _ _)
      · exact .inr (.inr (Nat.le_trans i5 hp))
theorem eu_same {n : Nat} {h v : Int × Int} (hh : 0 < h.2) (hv : 0 ≤ v.2) (hn : v.2.natAbs ≤ n) (hd : h.2 ∣ v.2) : (eu n h v).1 = h ∨ (eu n h v).1 = v := by
  by_cases hz : v.2 = 0
  · rw [eu_zero hz]; exact .inl rfl
  obtain ⟨k, rfl⟩ : ∃ k, n = k + 1 := ⟨n - 1, by omega⟩
  simp only [eu, if_neg hz]
  by_cases he : v.2 = h.2
  · right
    rw [eu_zero (by simp only; rw [he, Int.tmod_self])]
  · left
    have hlt : h.2 < v.2 := by
      have := Int.le_of_dvd (by omega) hd
      omega
    have e1 : h.2.tmod v.2 = h.2 := by rw [Int.tmod_eq_emod_of_nonneg (by omega), Int.emod_eq_of_lt (by omega) hlt]
    have e2 : h.2.tdiv v.2 = 0 := Int.tdiv_eq_zero_of_lt (by omega) hlt
    rw [e1, e2, Int.zero_mul, Int.sub_zero]
    obtain ⟨j, rfl⟩ : ∃ j, k = j + 1 := ⟨k - 1, by omega⟩
    have e3 : v.2.tmod h.2 = 0 := by
      obtain ⟨m, hm⟩ := hd
      rw [hm, Int.mul_tmod_right]
    simp only [eu]
    rw [if_neg (by omega), eu_zero (by simp only; exact e3)]
def tm (c y : Int) : Int := if c < 2 * y then 1 else if c < 4 * y then 4 else if c < 8 * y then 20 else if c < 16 * y then 168 else if c < 32 * y then 2704 else if c < 64 * y then 86560 else 5539904
theorem tm_pos (c y : Int) : 1 ≤ tm c y := by
  unfold tm
  repeat' split
  all_goals omega
theorem tm_core {c y' A X Z t K : Int} (hy' : 0 < y') (hc : 0 ≤ c) (hA : 0 ≤ A) (hK : 0 ≤ K) (hX : X ≤ A * t) (hz : Z * (2 * y') ≤ (X + A) * c) (h : c ≤ K * (2 * y')) (ht : 0 ≤ t) : Z ≤ A * ((t + 1) * K) := by
  have h1 : (X + A) * c ≤ (A * (t + 1)) * c := Int.mul_le_mul_of_nonneg_right (by rw [Int.mul_add, Int.mul_one]; omega) hc
  have h2 : (A * (t + 1)) * c ≤ (A * (t + 1)) * (K * (2 * y')) := Int.mul_le_mul_of_nonneg_left h (Int.mul_nonneg hA (by omega))
  have h3 : Z * (2 * y') ≤ (A * ((t + 1) * K)) * (2 * y') := by
    have e : (A * ((t + 1) * K)) * (2 * y') = (A * (t + 1)) * (K * (2 * y')) := by ac_rfl
    rw [e]; omega
  exact Int.le_of_mul_le_mul_right h3 (by omega)
theorem tm_next {c y y' A X Z : Int} (hy' : 0 < y') (h2 : 2 * y' ≤ y) (hy : y ≤ c) (hc : c ≤ 64) (hA : 0 ≤ A) (hX : X ≤ A * tm c y) (hz : Z * (2 * y') ≤ (X + A) * c) : Z ≤ A * tm c y' := by
  have up : ∀ t : Int, tm c y ≤ t → X ≤ A * t := fun t ht => Int.le_trans hX (Int.mul_le_mul_of_nonneg_left ht hA)
  have tmy : (c < 2 * y → tm c y ≤ 1) ∧ (c < 4 * y → tm c y ≤ 4) ∧ (c < 8 * y → tm c y ≤ 20) ∧ (c < 16 * y → tm c y ≤ 168) ∧ (c < 32 * y → tm c y ≤ 2704) ∧ (c < 64 * y → tm c y ≤ 86560) := by
    unfold tm
    repeat' split
    all_goals omega
  obtain ⟨t1, t2, t3, t4, t5, t6⟩ := tmy
  have c0 : 0 ≤ c := by omega
  unfold tm
  split
  · omega
  split
  · exact tm_core (t := 1) (K := 2) hy' c0 hA (by omega) (up 1 (t1 (by omega))) hz (by omega) (by omega)
  split
  · exact tm_core (t := 4) (K := 4) hy' c0 hA (by omega) (up 4 (t2 (by omega))) hz (by omega) (by omega)
  split
  · exact tm_core (t := 20) (K := 8) hy' c0 hA (by omega) (up 20 (t3 (by omega))) hz (by omega) (by omega)
  split
  · exact tm_core (t := 168) (K := 16) hy' c0 hA (by omega) (up 168 (t4 (by omega))) hz (by omega) (by omega)
  split
  · exact tm_core (t := 2704) (K := 32) hy' c0 hA (by omega) (up 2704 (t5 (by omega))) hz (by omega) (by omega)
  · exact tm_core (t := 86560) (K := 64) hy' c0 hA (by omega) (up 86560 (t6 (by omega))) hz (by omega) (by omega)
theorem tm_small {a c y : Int} (ha : 1 ≤ a ∧ a ≤ 64) (hc : 1 ≤ c ∧ c ≤ 64) (hac : a * c ≤ 64) (hy : 0 < y) : 0 ≤ (a - 1) * tm c y ∧ (a - 1) * tm c y ≤ 100000 := by
  have key : ∀ K : Int, K ≤ c → a * K ≤ 64 := fun K hK => Int.le_trans (Int.mul_le_mul_of_nonneg_left hK (by omega)) hac
  have k1 := key 2
  have k2 := key 4
  have k3 := key 8
  have k4 := key 16
  have k5 := key 32
  have k6 := key 64
  unfold tm
  repeat' split
  all_goals omega
structure inv (a c : Int) (s : Int × Int × Int) : Prop where
  g : 0 < s.1 ∧ s.1 ∣ a
  y : 0 < s.2.2 ∧ s.2.2 ∣ c
  x : (s.2.1.natAbs : Int) ≤ (a - 1) * tm c s.2.2
theorem gcd_facts {g r a : Int} (hg : 0 < g) (ha : g ∣ a) : 0 < (Int.gcd g r : Int) ∧ (Int.gcd g r : Int) ∣ a := by
  have h1 : (Int.gcd g r : Int) ∣ g := Int.gcd_dvd_left ..
  refine ⟨?_, Int.dvd_trans h1 ha⟩
  rcases Nat.eq_zero_or_pos (Int.gcd g r) with h | h
  · rw [h] at h1
    have := Int.zero_dvd.1 h1
    omega
  · omega
theorem inv_step {a c : Int} (ha : 1 ≤ a ∧ a ≤ 64) (hc : 1 ≤ c ∧ c ≤ 64) {s : Int × Int × Int} (h : inv a c s) {v : Int × Int} (hv : inC a c v) : inv a c (lstep s v) := by
  obtain ⟨⟨g1, g2⟩, ⟨y1, y2⟩, hx⟩ := h
  obtain ⟨⟨v1, v2⟩, v3, v4⟩ := hv
  obtain ⟨e1, e2, e3, e4, e5⟩ := eu_out v.2.natAbs s.2 v y1 v3 (Nat.le_refl _)
  have hyc := Int.le_of_dvd (by omega) y2
  have es := eu_same (n := v.2.natAbs) (h := s.2) (v := v) y1 v3 (Nat.le_refl _)
  have tp := tm_pos c s.2.2
  unfold lstep
  generalize eu v.2.natAbs s.2 v = r at *
  have tp' := tm_pos c r.1.2
  have hvx : (v.1.natAbs : Int) ≤ (a - 1) * tm c r.1.2 := by
    have := Int.mul_le_mul_of_nonneg_left tp' (show 0 ≤ a - 1 by omega)
    omega
  refine ⟨gcd_facts g1 g2, ⟨e2, Int.dvd_trans e3 y2⟩, ?_⟩
  simp only
  by_cases he : r.1.2 = s.2.2
  · rcases es (by rw [← he]; exact e4) with h | h
    · rw [h]; exact hx
    · rw [h] at hvx ⊢; exact hvx
  · have h2 : 2 * r.1.2 ≤ s.2.2 := by
      obtain ⟨m, hm⟩ := e3
      have hm2 : 2 ≤ m := by
        rcases Int.lt_or_le m 2 with h | h
        · exfalso
          rcases Int.lt_or_le m 1 with h' | h'
          · have := Int.mul_le_mul_of_nonneg_left (show m ≤ 0 by omega) (show 0 ≤ r.1.2 by omega)
            omega
          · have : m = 1 := by omega
            rw [this, Int.mul_one] at hm
            exact he hm.symm
        · exact h
      have := Int.mul_le_mul_of_nonneg_left hm2 (show 0 ≤ r.1.2 by omega)
      omega
    rcases e5 with h | h | h
    · exact absurd (by rw [h]) he
    · rw [h] at hvx ⊢; exact hvx
    · refine tm_next (y := s.2.2) e2 h2 hyc hc.2 (by omega) hx ?_
      unfold pot at h
      have q1 : s.2.1.natAbs * v.2.natAbs ≤ s.2.1.natAbs * c.toNat := Nat.mul_le_mul_left _ (by omega)
      have q2 : v.1.natAbs * s.2.2.natAbs ≤ (a - 1).toNat * c.toNat := Nat.mul_le_mul (by omega) (by omega)
      have q3 : r.1.1.natAbs * (2 * r.1.2.natAbs) ≤ (s.2.1.natAbs + (a - 1).toNat) * c.toNat := by rw [Nat.add_mul]; omega
      have q4 : ((r.1.1.natAbs * (2 * r.1.2.natAbs) : Nat) : Int) ≤ (((s.2.1.natAbs + (a - 1).toNat) * c.toNat : Nat) : Int) := Int.ofNat_le.2 q3
      rw [Int.natCast_mul, Int.natCast_mul, Int.natCast_mul, Int.natCast_add] at q4
      have w1 : ((r.1.2.natAbs : Nat) : Int) = r.1.2 := by omega
      have w2 : (((a - 1).toNat : Nat) : Int) = a - 1 := by omega
      have w3 : ((c.toNat : Nat) : Int) = c := by omega
      rw [w1, w2, w3] at q4
      exact q4
structure invS (a c : Int) (s : Int × Int × Int) : Prop where
  g : 0 < s.1 ∧ s.1 ∣ a
  y : 0 < s.2.2 ∧ s.2.2 ∣ c
  x : 0 ≤ s.2.1 ∧ s.2.1 < s.1
theorem invS_step {a c : Int} {s : Int × Int × Int} (h : invS a c s) {v : Int × Int} (hv : inC a c v) : invS a c (lstepS s v) := by
  obtain ⟨⟨g1, g2⟩, ⟨y1, y2⟩, hx⟩ := h
  obtain ⟨⟨v1, v2⟩, v3, v4⟩ := hv
  obtain ⟨e1, e2, e3, e4, e5⟩ := eu_out v.2.natAbs s.2 v y1 v3 (Nat.le_refl _)
  unfold lstepS
  generalize eu v.2.natAbs s.2 v = r at *
  have hg := gcd_facts (r := r.2.1) g1 g2
  refine ⟨hg, ⟨e2, Int.dvd_trans e3 y2⟩, ?_⟩
  simp only
  rw [if_pos hg.1]
  exact ⟨Int.emod_nonneg _ (by omega), Int.emod_lt_of_pos _ hg.1⟩
theorem fold_inv {α β : Type} {st : α → β → α} {I : α → Prop} {p : β → Prop} (h : ∀ s v, I s → p v → I (st s v)) : ∀ (M : List β) (s : α), I s → (∀ v ∈ M, p v) → I (M.foldl st s)
  | [], s, hs, _ => hs
  | v :: M, s, hs, hp => fold_inv h M _ (h s v hs (hp v List.mem_cons_self)) (fun w hw => hp w (List.mem_cons_of_mem _ hw))
theorem full_lat {a b c : Int} (h : okL a b c = true) (M : List (Int × Int)) (hM : ∀ v ∈ M, inC a c v) : ∃ A B C, okL A B C = true ∧ (lsmall ((a, 0) :: (b, c) :: M) ∧ 0 < (lfold ((a, 0) :: (b, c) :: M)).1 ∧ lfin (lfold ((a, 0) :: (b, c) :: M)) = (A, B, C)) ∧
    lsmallS ((a, 0) :: (b, c) :: M) ∧ 0 < (lfoldS ((a, 0) :: (b, c) :: M)).1 ∧ lfin (lfoldS ((a, 0) :: (b, c) :: M)) = (A, B, C) := by
  obtain ⟨ha, hc, hb, hac⟩ := okL_spec.1 h
  obtain ⟨f1, f2⟩ := lf_basis (a := a) (b := b) (c := c) (by omega) (by omega)
  rw [Int.emod_eq_of_lt hb.1 hb.2] at f2
  have g1 : ∀ N : List (Int × Int), lfold ((a, 0) :: (b, c) :: N) = N.foldl lstep (a, b, c) := fun N => by
    rw [← f1]; rfl
  have g2 : ∀ N : List (Int × Int), lfoldS ((a, 0) :: (b, c) :: N) = N.foldl lstepS (a, b, c) := fun N => by
    rw [← f2]; rfl
  have i0 : inv a c (a, b, c) := ⟨⟨by simp only; omega, Int.dvd_refl _⟩, ⟨by simp only; omega, Int.dvd_refl _⟩, by
    have := Int.mul_le_mul_of_nonneg_left (tm_pos c c) (show 0 ≤ a - 1 by omega)
    simp only
    omega⟩
  have j0 : invS a c (a, b, c) := ⟨⟨by simp only; omega, Int.dvd_refl _⟩, ⟨by simp only; omega, Int.dvd_refl _⟩, hb⟩
  have i1 : ∀ N : List (Int × Int), (∀ v ∈ N, inC a c v) → inv a c (lfold ((a, 0) :: (b, c) :: N)) := fun N hN => by
    rw [g1]; exact fold_inv (I := inv a c) (st := lstep) (p := inC a c) (fun s v hs hv => inv_step ha hc hs hv) N _ i0 hN
  have j1 : ∀ N : List (Int × Int), (∀ v ∈ N, inC a c v) → invS a c (lfoldS ((a, 0) :: (b, c) :: N)) := fun N hN => by
    rw [g2]; exact fold_inv (I := invS a c) (st := lstepS) (p := inC a c) (fun s v hs hv => invS_step hs hv) N _ j0 hN
  have tk : ∀ k, ∀ v ∈ M.take k, inC a c v := fun k v hv => hM v (List.mem_of_mem_take hv)
  have sm : ∀ v ∈ (a, 0) :: (b, c) :: M, smallV 1000000 v := by
    intro v hv
    rcases List.mem_cons.1 hv with rfl | hv
    · exact ⟨by simp only; omega, by simp⟩
    · rcases List.mem_cons.1 hv with rfl | hv
      · exact ⟨by simp only; omega, by simp only; omega⟩
      · obtain ⟨q1, q2⟩ := hM v hv
        exact ⟨by omega, by omega⟩
  obtain ⟨l1, l2⟩ := lf_one (a := a) (by omega)
  have ls : lsmall ((a, 0) :: (b, c) :: M) := by
    refine ⟨sm, fun k => ?_⟩
    match k with
    | 0 => simp [lfold, smallV]
    | 1 => simp only [List.take_succ_cons, List.take_zero, lfold, List.foldl_cons, List.foldl_nil, l1, smallV]; omega
    | k + 2 =>
      simp only [List.take_succ_cons]
      obtain ⟨⟨p1, p2⟩, ⟨p3, p4⟩, p5⟩ := i1 (M.take k) (tk k)
      have q1 := Int.le_of_dvd (by omega) p2
      have q2 := Int.le_of_dvd (by omega) p4
      have q3 := tm_small ha hc hac p3
      exact ⟨⟨by omega, by omega⟩, by omega⟩
  have lsS : lsmallS ((a, 0) :: (b, c) :: M) := by
    refine ⟨sm, fun k => ?_⟩
    match k with
    | 0 => simp [lfoldS, smallV]
    | 1 => simp only [List.take_succ_cons, List.take_zero, lfoldS, List.foldl_cons, List.foldl_nil, l2, smallV]; omega
    | k + 2 =>
      simp only [List.take_succ_cons]
      obtain ⟨⟨p1, p2⟩, ⟨p3, p4⟩, p5⟩ := j1 (M.take k) (tk k)
      have q1 := Int.le_of_dvd (by omega) p2
      have q2 := Int.le_of_dvd (by omega) p4
      exact ⟨⟨by omega, by omega⟩, by omega⟩
  have iM := i1 M hM
  have jM := j1 M hM
  generalize hL : (a, 0) :: (b, c) :: M = L at *
  -- one lattice, one form
  have form : ∀ s : Int × Int × Int, 0 < s.1 → 0 < s.2.2 → (lfin s).1 = s.1 ∧ (0 ≤ (lfin s).2.1 ∧ (lfin s).2.1 < s.1) ∧ (lfin s).2.2 = s.2.2 := fun s h1 h2 => by
    refine ⟨rfl, ⟨Int.emod_nonneg _ (by omega), Int.emod_lt_of_pos _ h1⟩, ?_⟩
    simp only [lfin]
    rw [if_neg (by omega)]
  obtain ⟨p1, p2, p3⟩ := form _ iM.g.1 iM.y.1
  obtain ⟨r1, r2, r3⟩ := form _ jM.g.1 jM.y.1
  have sub1 : ∀ {Λ : Int → Int → Prop}, Sub Λ → ((Λ (lfin (lfold L)).1 0 ∧ Λ (lfin (lfold L)).2.1 (lfin (lfold L)).2.2) ↔ ∀ v ∈ L, Λ v.1 v.2) := fun s => (sub_lfin s _).trans (sub_lfold s L)
  have sub2 : ∀ {Λ : Int → Int → Prop}, Sub Λ → ((Λ (lfin (lfoldS L)).1 0 ∧ Λ (lfin (lfoldS L)).2.1 (lfin (lfoldS L)).2.2) ↔ ∀ v ∈ L, Λ v.1 v.2) := fun s => (sub_lfin s _).trans (sub_lfoldS s L)
  have gi := iM.g
  have yi := iM.y
  have gj := jM.g
  have yj := jM.y
  rw [← p1] at gi p2
  rw [← p3] at yi
  rw [← r1] at gj r2
  rw [← r3] at yj
  generalize lfin (lfold L) = R at *
  generalize lfin (lfoldS L) = T at *
  obtain ⟨A, B, C⟩ := R
  obtain ⟨A', B', C'⟩ := T
  simp only at *
  have m1 := (sub2 (spn_sub A B C)).2 ((sub1 (spn_sub A B C)).1 ⟨spn_l _ _ _, spn_r _ _ _⟩)
  have m2 := (sub1 (spn_sub A' B' C')).2 ((sub2 (spn_sub A' B' C')).1 ⟨spn_l _ _ _, spn_r _ _ _⟩)
  have e := spn_uniq gi.1 p2 yi.1 gj.1 r2 yj.1 m2.1 m2.2 m1.1 m1.2
  have q1 := Int.le_of_dvd (by omega) gi.2
  have q2 := Int.le_of_dvd (by omega) yi.2
  have q3 : A * C ≤ a * c := Int.mul_le_mul q1 q2 (by omega) (by omega)
  exact ⟨A, B, C, okL_spec.2 ⟨⟨by omega, by omega⟩, ⟨by omega, by omega⟩, p2, by omega⟩, ⟨ls, iM.g.1, rfl⟩, lsS, jM.g.1, e.symm⟩
end Go.Proofs.YtihkjljafjhniaaEv
namespace Go.Proofs.YtihkjljafjhniaaEv
open Go Go.Proofs
set_option maxRecDepth 10000
set_option maxHeartbeats 1000000
def imG (g : G6) (v : Int × Int) : Int × Int := (g.1.1 * v.1 + g.1.2.1 * v.2 + g.2.1, g.1.2.2.1 * v.1 + g.1.2.2.2 * v.2 + g.2.2)
def kp1 (a b c : Int) (l : List Int) (g : G6) (v : Int × Int) : Bool := decide (l.getD (num a b c (imG g v).1 (imG g v).2).toNat 0 = l.getD (num a b c v.1 v.2).toNat 0)
def kpB (a b c : Int) (l : List Int) (g : G6) : Bool := (cl a c).all (kp1 a b c l g)
theorem all_hit {α : Type} {l : List α} {p : α → Bool} {i : Nat} {z : α} (hz : l[i]? = some z) (hp : p z = false) : l.all p = false := by
  rw [List.all_eq_false]
  exact ⟨z, List.mem_of_getElem? hz, by rw [hp]; simp⟩
theorem all_done {α : Type} {l : List α} {p : α → Bool} {i : Nat} (hi : l.length ≤ i) (hn : ∀ x ∈ l.take i, p x = true) : l.all p = true := by
  rw [List.take_of_length_le hi] at hn
  exact List.all_eq_true.2 hn
theorem all_next {α : Type} {l : List α} {p : α → Bool} {i : Nat} {z : α} (hz : l[i]? = some z) (hn : ∀ x ∈ l.take i, p x = true) (hp : p z = true) : ∀ x ∈ l.take (i + 1), p x = true := by
  intro x hx
  rcases mem_take_succ hz hx with h | h
  · exact hn _ h
  · rw [h]; exact hp
theorem im_bd {g : G6} (hg : smallG g) {x y : Int} (hx : 0 ≤ x ∧ x < 64) (hy : 0 ≤ y ∧ y < 64) : (imG g (x, y)).1.natAbs ≤ 1000000 ∧ (imG g (x, y)).2.natAbs ≤ 1000000 := by
  obtain ⟨g1, g2, g3⟩ := hg
  have h1 := mul_bd g1.1 (show x.natAbs ≤ 64 by omega)
  have h2 := mul_bd g1.2 (show y.natAbs ≤ 64 by omega)
  have h3 := mul_bd g2.1 (show x.natAbs ≤ 64 by omega)
  have h4 := mul_bd g2.2 (show y.natAbs ≤ 64 by omega)
  simp only [imG]
  omega
theorem s_keeps (f a b c : Int) (l : List Int) (g : G6) (hf : okP f a b c l = true) (hg : smallG g) : Sp Try.prog 166 [aP f a b c l, aG6 g] (vb (kpB a b c l g)) [] := by
  obtain ⟨_, h2, h3, _⟩ := okP_spec.1 hf
  obtain ⟨ha, hc, hb, hac⟩ := okL_spec.1 h2
  have h1 := ac_pos ha.1 hc.1
  have hn := nat_n ha.1 hc.1 h3
  refine sp_of (m := no) mixed Try.func166 k166 ?_
  simp -dsimp [q]
  refine call_of (s_cells a b c ha hc) rfl (by simp) ?_
  try simp -dsimp
  try (first | exact fp_one (by decide) | refine fp_and (by decide) ?_)
  refine awp_it (false :: false :: true :: true :: false :: false :: false :: false :: false :: true :: true :: true :: []) (fun i : Nat => [(11, vi i)]) (fun i => []) (fun i => i ≤ l.length ∧ ∀ t ∈ (cl a c).take i, kp1 a b c l g t = true) (fun i => l.length - i) 0 ?_
  intro s0 e
  simp -dsimp at e
  subst e
  refine ⟨?_, ?_⟩
  · simp
  rintro i ⟨hi, hno⟩
  simp -dsimp [cellsL_len, hn, -Prod.forall]
  refine ⟨fun h5 => ⟨by omega, fun v hv => ?_⟩, fun h5 => ?_⟩
  · obtain ⟨x, y⟩ := v
    obtain ⟨⟨k1, k2⟩, _, k3⟩ := cell_of ha.1 hc.1 hv
    have k4 := (num_ix (b := b) (show inC a c (x, y) from ⟨k1, k2⟩)).1
    have k5 := im_bd hg (x := x) (y := y) (by omega) (by omega)
    have w1 : Sp Try.prog 153 [aG6 g, aV x y] (aV (imG g (x, y)).1 (imG g (x, y)).2) [] := s_gapply _ _ _ _ _ _ x y ⟨hg.1, hg.2.1⟩ ⟨by omega, by omega⟩ (by have := hg.2.2; omega)
    have w2 := s_at f a b c (imG g (x, y)).1 (imG g (x, y)).2 l hf (by omega) (by omega)
    have hz : (l.getD i 0) = l.getD (num a b c (x, y).1 (x, y).2).toNat 0 := by rw [k4, k3]; simp
    refine call_of (w1) rfl (by simp) ?_
    try simp -dsimp
    try (first | exact fp_one (by decide) | refine fp_and (by decide) ?_)
    refine call_of (w2) rfl (by simp) ?_
    try simp -dsimp
    try (first | exact fp_one (by decide) | refine fp_and (by decide) ?_)
    refine ⟨h5, fun z hz' => ⟨fun e => ?_, fun e => ⟨i + 1, by rw [w64 (by omega) (by omega)]; simp, ⟨by omega, fun x' y' ht => ?_⟩, by omega⟩⟩⟩
    · exact all_hit hv (decide_eq_false (by rw [← hz, List.getD_eq_getElem?_getD, List.getD_eq_getElem?_getD, hz']; exact e))
    · exact all_next hv hno (decide_eq_true (by rw [← hz, List.getD_eq_getElem?_getD, List.getD_eq_getElem?_getD, hz']; exact e)) _ ht
  · rw [kpB, all_done (by rw [cellsL_len, hn]; exact h5) hno]
theorem s_skeepsP (f a b c : Int) (l : List Int) (g : G6) (hf : okP f a b c l = true) (hg : smallG g) : Sp Try.prog 162 [aP f a b c l, aG6 g] (vb (kpB a b c l g)) [] := by
  obtain ⟨_, h2, h3, _⟩ := okP_spec.1 hf
  obtain ⟨ha, hc, hb, hac⟩ := okL_spec.1 h2
  have h1 := ac_pos ha.1 hc.1
  have hn := nat_n ha.1 hc.1 h3
  refine sp_of (m := no) mixed Try.func162 k162 ?_
  simp -dsimp [q]
  refine call_of (s_scells a b c ha hc) rfl (by simp) ?_
  try simp -dsimp
  try (first | exact fp_one (by decide) | refine fp_and (by decide) ?_)
  refine awp_it (false :: false :: true :: true :: false :: true :: true :: []) (fun i : Nat => [(6, vi i)]) (fun i => []) (fun i => i ≤ l.length ∧ ∀ t ∈ (cl a c).take i, kp1 a b c l g t = true) (fun i => l.length - i) 0 ?_
  intro s0 e
  simp -dsimp at e
  subst e
  refine ⟨?_, ?_⟩
  · simp
  rintro i ⟨hi, hno⟩
  simp -dsimp [cellsL_len, hn, -Prod.forall]
  refine ⟨fun h5 => ⟨by omega, fun v hv => ?_⟩, fun h5 => ?_⟩
  · obtain ⟨x, y⟩ := v
    obtain ⟨⟨k1, k2⟩, _, k3⟩ := cell_of ha.1 hc.1 hv
    have k5 := im_bd hg (x := x) (y := y) (by omega) (by omega)
    have w1 : Sp Try.prog 146 [aG6 g, aV x y] (aV (imG g (x, y)).1 (imG g (x, y)).2) [] := s_sgapply _ _ _ _ _ _ x y ⟨hg.1, hg.2.1⟩ ⟨by omega, by omega⟩ (by have := hg.2.2; omega)
    have w2 := s_sat f a b c (imG g (x, y)).1 (imG g (x, y)).2 l hf (by omega) (by omega)
    have w3 := s_sat f a b c x y l hf (by omega) (by omega)
    refine call_of (w1) rfl (by simp) ?_
    try simp -dsimp
    try (first | exact fp_one (by decide) | refine fp_and (by decide) ?_)
    refine call_of (w2) rfl (by simp) ?_
    try simp -dsimp
    try (first | exact fp_one (by decide) | refine fp_and (by decide) ?_)
    refine ⟨by rw [cellsL_len, hn]; exact h5, fun x' y' hv' => ?_⟩
    rw [hv] at hv'
    cases hv'
    refine call_of (w3) rfl (by simp) ?_
    try simp -dsimp
    try (first | exact fp_one (by decide) | refine fp_and (by decide) ?_)
    refine ⟨fun e => ?_, fun e => ⟨i + 1, by rw [w64 (by omega) (by omega)]; simp, ⟨by omega, fun x' y' ht => ?_⟩, by omega⟩⟩
    · exact all_hit hv (decide_eq_false (by rw [List.getD_eq_getElem?_getD, List.getD_eq_getElem?_getD]; exact e))
    · exact all_next hv hno (decide_eq_true (by rw [List.getD_eq_getElem?_getD, List.getD_eq_getElem?_getD]; exact e)) _ ht
  · rw [kpB, all_done (by rw [cellsL_len, hn]; exact h5) hno]
theorem small_tr {a c x y : Int} (ha : 1 ≤ a ∧ a ≤ 64) (hc : 1 ≤ c ∧ c ≤ 64) (h : (0 ≤ x ∧ x < a) ∧ 0 ≤ y ∧ y < c) : smallG ((1, 0, 0, 1), x, y) := by
  unfold smallG
  simp only
  omega
abbrev kpV (a b c : Int) (l : List Int) (v : Int × Int) : Bool := kpB a b c l ((1, 0, 0, 1), v)
def fuL (a b c : Int) (l : List Int) (n : Nat) : List (Int × Int) := (a, 0) :: (b, c) :: ((cl a c).take n).filter (kpV a b c l)
theorem fuL_zero (a b c : Int) (l : List Int) : fuL a b c l 0 = [(a, 0), (b, c)] := rfl
theorem fuL_succ {a b c : Int} {l : List Int} {n : Nat} {v : Int × Int} (h : (cl a c)[n]? = some v) : fuL a b c l (n + 1) = if kpV a b c l v = true then fuL a b c l n ++ [v] else fuL a b c l n := by
  unfold fuL
  rw [List.take_add_one, h, List.filter_append]
  cases hm : kpV a b c l v <;> simp [hm]
theorem fuL_len (a b c : Int) (l : List Int) (n : Nat) : (fuL a b c l n).length ≤ n + 2 := by
  have := List.length_filter_le (kpV a b c l) ((cl a c).take n)
  rw [List.length_take] at this
  simp only [fuL, List.length_cons]
  omega
theorem fuL_lat {a b c : Int} (h : okL a b c = true) (l : List Int) (n : Nat) : ∃ A B C, okL A B C = true ∧ (lsmall (fuL a b c l n) ∧ 0 < (lfold (fuL a b c l n)).1 ∧ lfin (lfold (fuL a b c l n)) = (A, B, C)) ∧ lsmallS (fuL a b c l n) ∧ 0 < (lfoldS (fuL a b c l n)).1 ∧ lfin (lfoldS (fuL a b c l n)) = (A, B, C) := by
  obtain ⟨ha, hc, hb, hac⟩ := okL_spec.1 h
  refine full_lat h _ (fun v hv => ?_)
  have h1 := List.mem_of_mem_take (List.mem_filter.1 hv).1
  obtain ⟨i, hi⟩ := List.mem_iff_getElem?.1 h1
  exact (cl_at ha.1 hc.1 hi).1
theorem s_full (f a b c : Int) (l : List Int) (hf : okP f a b c l = true) {A' B' C' : Int} (hs : lsmall (fuL a b c l l.length)) (h0 : 0 < (lfold (fuL a b c l l.length)).1) (he : lfin (lfold (fuL a b c l l.length)) = (A', B', C')) : Sp Try.prog 164 [aP f a b c l] (aL A' B' C') [] := by
  obtain ⟨_, h2, h3, _⟩ := okP_spec.1 hf
  obtain ⟨ha, hc, hb, hac⟩ := okL_spec.1 h2
  have h1 := ac_pos ha.1 hc.1
  have hn := nat_n ha.1 hc.1 h3
  have w9 := s_latticeOf _ (by have := fuL_len a b c l l.length; omega) hs h0
  rw [he] at w9
  refine sp_of (m := no) mixed Try.func164 k164 ?_
  simp -dsimp [q]
  refine call_of (s_basis a b c) rfl (by simp) ?_
  try simp -dsimp
  try (first | exact fp_one (by decide) | refine fp_and (by decide) ?_)
  refine call_of (s_cells a b c ha hc) rfl (by simp) ?_
  try simp -dsimp
  try (first | exact fp_one (by decide) | refine fp_and (by decide) ?_)
  refine awp_it (false :: true :: true :: false :: false :: true :: false :: false :: false :: false :: false :: false :: false :: false :: false :: false :: false :: false :: false :: true :: true :: true :: []) (fun i : Nat => [(21, vi i)]) (fun i => [(2, .row 2 29 (vs (fuL a b c l i)))]) (fun i => i ≤ l.length) (fun i => l.length - i) 0 ?_
  intro s0 e
  simp -dsimp at e
  subst e
  refine ⟨?_, ?_⟩
  · simp [fuL, vs, vv]
  intro i hi
  have hfl := fuL_len a b c l i
  simp -dsimp [cellsL_len, hn, -Prod.forall]
  refine ⟨fun h5 => ⟨by omega, fun v hv => ?_⟩, fun h5 => ?_⟩
  · obtain ⟨x, y⟩ := v
    obtain ⟨k1, _, _⟩ := cell_of ha.1 hc.1 hv
    have w1 := s_keeps f a b c l ((1, 0, 0, 1), x, y) hf (small_tr ha hc k1)
    have hsu := fuL_succ (b := b) (l := l) hv
    refine call_of (s_unit) rfl (by simp) ?_
    try simp -dsimp
    try (first | exact fp_one (by decide) | refine fp_and (by decide) ?_)
    refine call_of (w1) rfl (by simp) ?_
    try simp -dsimp
    try (first | exact fp_one (by decide) | refine fp_and (by decide) ?_)
    refine ⟨fun e => ?_, fun e => ?_⟩
    · refine ⟨⟨by omega, by omega⟩, i + 1, ⟨by rw [w64 (by omega) (by omega)]; simp, ?_⟩, by omega, by omega⟩
      rw [hsu, if_pos e]
    · refine ⟨i + 1, ⟨by rw [w64 (by omega) (by omega)]; simp, ?_⟩, by omega, by omega⟩
      rw [hsu, if_neg (by rw [kpV, e]; simp)]
  · obtain rfl : i = l.length := by omega
    refine call_of (w9) rfl (by simp) ?_
    try simp -dsimp
    try (first | exact fp_one (by decide) | refine fp_and (by decide) ?_)
theorem s_sfull (f a b c : Int) (l : List Int) (hf : okP f a b c l = true) {A' B' C' : Int} (hs : lsmallS (fuL a b c l l.length)) (h0 : 0 < (lfoldS (fuL a b c l l.length)).1) (he : lfin (lfoldS (fuL a b c l l.length)) = (A', B', C')) : Sp Try.prog 160 [aP f a b c l] (aL A' B' C') [] := by
  obtain ⟨_, h2, h3, _⟩ := okP_spec.1 hf
  obtain ⟨ha, hc, hb, hac⟩ := okL_spec.1 h2
  have h1 := ac_pos ha.1 hc.1
  have hn := nat_n ha.1 hc.1 h3
  have w9 := s_hermite _ (by have := fuL_len a b c l l.length; omega) hs h0
  rw [he] at w9
  refine sp_of (m := no) mixed Try.func160 k160 ?_
  simp -dsimp [q]
  refine call_of (s_scells a b c ha hc) rfl (by simp) ?_
  try simp -dsimp
  try (first | exact fp_one (by decide) | refine fp_and (by decide) ?_)
  refine call_of (s_sbasis' a b c) rfl (by simp) ?_
  try simp -dsimp
  try (first | exact fp_one (by decide) | refine fp_and (by decide) ?_)
  refine awp_it (false :: true :: true :: true :: true :: true :: []) (fun i : Nat => [(5, vi i)]) (fun i => [(3, .row 2 29 (vs (fuL a b c l i)))]) (fun i => i ≤ l.length) (fun i => l.length - i) 0 ?_
  intro s0 e
  simp -dsimp at e
  subst e
  refine ⟨?_, ?_⟩
  · simp [fuL, vs, vv]
  intro i hi
  have hfl := fuL_len a b c l i
  simp -dsimp [cellsL_len, hn, -Prod.forall]
  refine ⟨fun h5 => ?_, fun h5 => ?_⟩
  · refine call_of (s_sunit) rfl (by simp) ?_
    try simp -dsimp
    try (first | exact fp_one (by decide) | refine fp_and (by decide) ?_)
    refine ⟨by rw [cellsL_len, hn]; exact h5, fun x y hv => ?_⟩
    obtain ⟨k1, _, _⟩ := cell_of ha.1 hc.1 hv
    have w1 := s_skeepsP f a b c l ((1, 0, 0, 1), x, y) hf (small_tr ha hc k1)
    have hsu := fuL_succ (b := b) (l := l) hv
    refine call_of (w1) rfl (by simp) ?_
    try simp -dsimp
    try (first | exact fp_one (by decide) | refine fp_and (by decide) ?_)
    refine ⟨fun e => ?_, fun e => ?_⟩
    · refine ⟨by rw [cellsL_len, hn]; exact h5, fun x' y' hv' => ?_⟩
      rw [hv] at hv'
      cases hv'
      refine ⟨⟨by omega, by omega⟩, i + 1, ⟨by rw [w64 (by omega) (by omega)]; simp, ?_⟩, by omega, by omega⟩
      rw [hsu, if_pos e]
    · refine ⟨i + 1, ⟨by rw [w64 (by omega) (by omega)]; simp, ?_⟩, by omega, by omega⟩
      rw [hsu, if_neg (by rw [kpV, e]; simp)]
  · obtain rfl : i = l.length := by omega
    refine call_of (w9) rfl (by simp) ?_
    try simp -dsimp
    try (first | exact fp_one (by decide) | refine fp_and (by decide) ?_)
def lnL (a b c A C : Int) (l : List Int) (n : Nat) : List Int := ((cl A C).take n).map fun v => l.getD (num a b c v.1 v.2).toNat 0
theorem lnL_succ {a b c A C : Int} {l : List Int} {n : Nat} {v : Int × Int} (h : (cl A C)[n]? = some v) : lnL a b c A C l (n + 1) = lnL a b c A C l n ++ [l.getD (num a b c v.1 v.2).toNat 0] := by
  simp [lnL, List.take_add_one, h]
theorem lnL_len (a b c A C : Int) (l : List Int) (n : Nat) : (lnL a b c A C l n).length = min n (cl A C).length := by simp [lnL]
theorem nat_ac1 {a c : Int} (ha : 1 ≤ a) (hc : 1 ≤ c) : 0 < a.toNat * c.toNat := Nat.mul_pos (by omega) (by omega)
theorem s_spread (f a b c A' B' C' : Int) (l : List Int) (hf : okP f a b c l = true) (h : okL A' B' C' = true) {N : Nat} (hN : A'.toNat * C'.toNat = N) : Sp Try.prog 163 [aP f a b c l, aL A' B' C'] (aP f A' B' C' (lnL a b c A' C' l N)) [] := by
  obtain ⟨ha, hc, hb, hac⟩ := okL_spec.1 h
  have h1 := ac_pos ha.1 hc.1
  have hcl : (cl A' C').length = N := by rw [cellsL_len, hN]
  have hNb : (N : Int) = A' * C' := by rw [← hN, Int.natCast_mul, Int.toNat_of_nonneg (by omega), Int.toNat_of_nonneg (by omega)]
  refine sp_of (m := no) mixed Try.func163 k163 ?_
  simp -dsimp [q]
  refine call_of (s_cells A' B' C' ha hc) rfl (by simp) ?_
  try simp -dsimp
  try (first | exact fp_one (by decide) | refine fp_and (by decide) ?_)
  refine awp_it (false :: false :: true :: false :: true :: true :: false :: false :: false :: false :: false :: false :: false :: true :: true :: true :: []) (fun i : Nat => [(15, vi i)]) (fun i => match i with | 0 => [] | i + 1 => [(2, .box [vi f, vi A', vi B', vi C', .sli 4]), (4, .row 0 2 (is (lnL a b c A' C' l (i + 1))))]) (fun i => i ≤ N) (fun i => N - i) 0 ?_
  intro s0 e
  simp -dsimp at e
  subst e
  refine ⟨?_, ?_⟩
  · simp
  intro i hi
  cases i with
  | zero =>
    simp -dsimp [cellsL_len, hN]
    refine ⟨fun h5 => ⟨h5, fun x y hxy => ?_⟩, by rintro rfl; exact absurd hcl (by rw [cellsL_len]; intro e; have := nat_ac1 ha.1 hc.1; omega)⟩
    obtain ⟨⟨k1, k2⟩, _, _⟩ := cell_of ha.1 hc.1 hxy
    have ht := lnL_succ (a := a) (b := b) (c := c) (l := l) hxy
    refine call_of (s_at f a b c x y l hf (by omega) (by omega)) rfl (by simp) ?_
    try simp -dsimp
    try (first | exact fp_one (by decide) | refine fp_and (by decide) ?_)
    rw [show lnL a b c A' C' l 0 = [] from rfl, List.nil_append] at ht
    refine ⟨1, ⟨by rw [w64 (by omega) (by omega)]; simp, ?_⟩, by omega, by omega⟩
    simp [show lnL a b c A' C' l 1 = _ from ht]
  | succ i =>
    have hll := lnL_len a b c A' C' l (i + 1)
    simp -dsimp [cellsL_len, hN]
    refine ⟨fun h5 => ⟨⟨by omega, h5⟩, by omega, fun x y hxy => ?_⟩, fun h5 => ?_⟩
    · obtain ⟨⟨k1, k2⟩, _, _⟩ := cell_of ha.1 hc.1 hxy
      have ht := lnL_succ (a := a) (b := b) (c := c) (l := l) hxy
      refine call_of (s_at f a b c x y l hf (by omega) (by omega)) rfl (by simp) ?_
      try simp -dsimp
      try (first | exact fp_one (by decide) | refine fp_and (by decide) ?_)
      refine ⟨⟨by omega, by omega⟩, by decide, i + 2, ⟨by rw [w64 (by omega) (by omega)]; simp; omega, ?_⟩, by omega, by omega⟩
      simp [ht]
    · rw [show N = i + 1 by omega]
theorem s_son (f a b c A' B' C' : Int) (l : List Int) (hf : okP f a b c l = true) (h : okL A' B' C' = true) {N : Nat} (hN : A'.toNat * C'.toNat = N) : Sp Try.prog 159 [aP f a b c l, aL A' B' C'] (aP f A' B' C' (lnL a b c A' C' l N)) [] := by
  obtain ⟨ha, hc, hb, hac⟩ := okL_spec.1 h
  have h1 := ac_pos ha.1 hc.1
  have hcl : (cl A' C').length = N := by rw [cellsL_len, hN]
  have hNb : (N : Int) = A' * C' := by rw [← hN, Int.natCast_mul, Int.toNat_of_nonneg (by omega), Int.toNat_of_nonneg (by omega)]
  refine sp_of (m := no) mixed Try.func159 k159 ?_
  simp -dsimp [q]
  refine call_of (s_scells A' B' C' ha hc) rfl (by simp) ?_
  try simp -dsimp
  try (first | exact fp_one (by decide) | refine fp_and (by decide) ?_)
  refine awp_it (false :: false :: true :: false :: true :: true :: true :: true :: []) (fun i : Nat => [(7, vi i)]) (fun i => [(4, .row 0 2 (is (lnL a b c A' C' l i)))]) (fun i => i ≤ N) (fun i => N - i) 0 ?_
  intro s0 e
  simp -dsimp at e
  subst e
  refine ⟨?_, ?_⟩
  · simp [lnL]
  intro i hi
  have hll := lnL_len a b c A' C' l i
  simp -dsimp [cellsL_len, hN]
  refine ⟨fun h5 => ?_, fun h5 => ?_⟩
  · refine ⟨by omega, fun x y hxy => ?_⟩
    obtain ⟨⟨k1, k2⟩, _, _⟩ := cell_of ha.1 hc.1 hxy
    have ht := lnL_succ (a := a) (b := b) (c := c) (l := l) hxy
    refine call_of (s_sat f a b c x y l hf (by omega) (by omega)) rfl (by simp) ?_
    try simp -dsimp
    try (first | exact fp_one (by decide) | refine fp_and (by decide) ?_)
    refine ⟨⟨by omega, by omega⟩, by decide, i + 1, ⟨by rw [w64 (by omega) (by omega)]; simp, ?_⟩, by omega, by omega⟩
    rw [ht]
    simp
  · rw [show N = i by omega]
theorem lnL_ok {f a b c A' B' C' : Int} {l : List Int} (hf : okP f a b c l = true) (h : okL A' B' C' = true) {N : Nat} (hN : A'.toNat * C'.toNat = N) : okP f A' B' C' (lnL a b c A' C' l N) = true := by
  obtain ⟨h1, h2, h3, h4⟩ := okP_spec.1 hf
  obtain ⟨ha, hc, hb, hac⟩ := okL_spec.1 h
  refine okP_spec.2 ⟨h1, h, ?_, fun n hn => ?_⟩
  · rw [lnL_len, cellsL_len, hN, Nat.min_self, ← hN, Int.natCast_mul, Int.toNat_of_nonneg (by omega), Int.toNat_of_nonneg (by omega)]
  · obtain ⟨v, _, rfl⟩ := List.mem_map.1 hn
    rw [List.getD_eq_getElem?_getD]
    cases he : l[(num a b c v.1 v.2).toNat]? with
    | none => simp
    | some z => exact h4 _ (List.mem_of_getElem? he)
theorem lean_both {f a b c : Int} {l : List Int} (hf : okP f a b c l = true) : ∃ A B C L, okP f A B C L = true ∧ Sp Try.prog 95 [aP f a b c l] (aP f A B C L) [] ∧ Sp Try.prog 92 [aP f a b c l] (aP f A B C L) [] := by
  obtain ⟨h1, h2, h3, h4⟩ := okP_spec.1 hf
  obtain ⟨A, B, C, hL, ⟨p1, p2, p3⟩, q1, q2, q3⟩ := fuL_lat h2 l l.length
  refine ⟨A, B, C, _, lnL_ok hf hL rfl, ?_, ?_⟩
  · refine sp_of (m := no) mixed Try.func95 k95 ?_
    simp -dsimp [q]
    refine call_of (s_full f a b c l hf p1 p2 p3) rfl (by simp) ?_
    try simp -dsimp
    try (first | exact fp_one (by decide) | refine fp_and (by decide) ?_)
    refine call_of (s_spread f a b c A B C l hf hL rfl) rfl (by simp) ?_
    try simp -dsimp
    try (first | exact fp_one (by decide) | refine fp_and (by decide) ?_)
  · refine sp_of (m := no) mixed Try.func92 k92 ?_
    simp -dsimp [q]
    refine call_of (s_sfull f a b c l hf q1 q2 q3) rfl (by simp) ?_
    try simp -dsimp
    try (first | exact fp_one (by decide) | refine fp_and (by decide) ?_)
    refine call_of (s_son f a b c A B C l hf hL rfl) rfl (by simp) ?_
    try simp -dsimp
    try (first | exact fp_one (by decide) | refine fp_and (by decide) ?_)
end Go.Proofs.YtihkjljafjhniaaEv
namespace Go.Proofs.YtihkjljafjhniaaEv
open Go Go.Proofs
set_option maxRecDepth 10000
set_option maxHeartbeats 1000000
theorem s_smats (f : Int) (hf : 0 ≤ f ∧ f ≤ 1) : Sp Try.prog 205 [vi f] (.sli 0) [.row 4 61 (ms (pmL f 81))] := by
  refine sp_of (m := no) mixed Try.func205 k205 ?_
  simp -dsimp [q]
  refine awp_it (true :: false :: false :: true :: true :: []) (fun i : Nat => [(4, vi i)]) (fun i => [(0, .row 4 61 (ms (pmL f i)))]) (fun i => i ≤ 81) (fun i => 81 - i) 0 ?_
  intro s0 e
  simp -dsimp at e
  subst e
  refine ⟨?_, ?_⟩
  · simp [pmL]
  intro i hi
  have hlen := pmL_len f i
  have hs := pmL_succ f i
  have a1 : IntKind.i64.wrap ((i : Int) / 27) = (i : Int) / 27 := w64 (by omega) (by omega)
  have a2 : IntKind.i64.wrap ((i : Int) / 9) = (i : Int) / 9 := w64 (by omega) (by omega)
  have a3 : IntKind.i64.wrap ((i : Int) / 3) = (i : Int) / 3 := w64 (by omega) (by omega)
  have b2 : ((i : Int) / 9).tmod 3 = (i : Int) / 9 % 3 := Int.tmod_eq_emod_of_nonneg (by omega)
  have b3 : ((i : Int) / 3).tmod 3 = (i : Int) / 3 % 3 := Int.tmod_eq_emod_of_nonneg (by omega)
  have b4 : (i : Int).tmod 3 = (i : Int) % 3 := Int.tmod_eq_emod_of_nonneg (by omega)
  have c1 : IntKind.i64.wrap ((i : Int) / 27 - 1) = (i : Int) / 27 - 1 := w64 (by omega) (by omega)
  have c2 : IntKind.i64.wrap ((i : Int) / 9 % 3 - 1) = (i : Int) / 9 % 3 - 1 := w64 (by omega) (by omega)
  have c3 : IntKind.i64.wrap ((i : Int) / 3 % 3 - 1) = (i : Int) / 3 % 3 - 1 := w64 (by omega) (by omega)
  have c4 : IntKind.i64.wrap ((i : Int) % 3 - 1) = (i : Int) % 3 - 1 := w64 (by omega) (by omega)
  have d1 : -1 ≤ (i : Int) / 27 - 1 ∧ ((i : Int) < 81 → (i : Int) / 27 - 1 ≤ 1) := ⟨by omega, by omega⟩
  have d2 : -1 ≤ (i : Int) / 9 % 3 - 1 ∧ (i : Int) / 9 % 3 - 1 ≤ 1 := ⟨by omega, by omega⟩
  have d3 : -1 ≤ (i : Int) / 3 % 3 - 1 ∧ (i : Int) / 3 % 3 - 1 ≤ 1 := ⟨by omega, by omega⟩
  have d4 : -1 ≤ (i : Int) % 3 - 1 ∧ (i : Int) % 3 - 1 ≤ 1 := ⟨by omega, by omega⟩
  have hmat : mat81 i = ((i : Int) / 27 - 1, (i : Int) / 9 % 3 - 1, (i : Int) / 3 % 3 - 1, (i : Int) % 3 - 1) := rfl
  simp -dsimp [a1, a2, a3, b2, b3, b4, c1, c2, c3, c4]
  refine ⟨fun h1 => ?_, fun h1 => ?_⟩
  · generalize (i : Int) / 27 - 1 = a at *
    generalize (i : Int) / 9 % 3 - 1 = b at *
    generalize (i : Int) / 3 % 3 - 1 = c at *
    generalize (i : Int) % 3 - 1 = d at *
    have d1' := d1.2 (by omega)
    rw [hmat] at hs
    refine call_of (s_skeeps f a b c d hf ⟨⟨by omega, by omega⟩, by omega, by omega⟩) rfl (by simp) ?_
    try simp -dsimp
    try (first | exact fp_one (by decide) | refine fp_and (by decide) ?_)
    refine ⟨fun e => ?_, fun e => ?_⟩
    · rw [if_pos e] at hs
      refine ⟨⟨by omega, by omega⟩, i + 1, ?_, by omega, by omega⟩
      exact ⟨by rw [w64 (by omega) (by omega)]; simp, by rw [hs]⟩
    · rw [if_neg (by rw [e]; simp)] at hs
      rw [List.append_nil] at hs
      exact ⟨i + 1, ⟨by rw [w64 (by omega) (by omega)]; simp, by rw [hs]⟩, by omega, by omega⟩
  · rw [show i = 81 by omega]
abbrev mtL (f a b c : Int) : List M4 := (pmL f 81).filter fun m => keepL a b c m
theorem flt_succ {α : Type} {p : α → Bool} {l : List α} {i : Nat} {g : α} (h : l[i]? = some g) : (l.take (i + 1)).filter p = if p g = true then (l.take i).filter p ++ [g] else (l.take i).filter p := by
  rw [List.take_add_one, h, List.filter_append]
  cases hm : p g <;> simp [hm]
theorem flt_len {α : Type} (p : α → Bool) (l : List α) (i : Nat) : ((l.take i).filter p).length ≤ i := by
  have := List.length_filter_le p (l.take i)
  rw [List.length_take] at this
  omega
theorem s_stable (f a b c : Int) (hf : 0 ≤ f ∧ f ≤ 1) (h : okL a b c = true) : Sp Try.prog 161 [vi f, aL a b c] (.v (vms (mtL f a b c))) [] := by
  have hlen := pmL_len f 81
  refine sp_of (m := no) mixed Try.func161 k161 ?_
  simp -dsimp [q]
  refine call_of (s_smats f hf) rfl (by simp) ?_
  try simp -dsimp
  try (first | exact fp_one (by decide) | refine fp_and (by decide) ?_)
  refine awp_it (false :: false :: false :: true :: false :: true :: true :: true :: []) (fun i : Nat => [(7, vi i)]) (fun i => [(2, .row 4 61 (ms (((pmL f 81).take i).filter fun m => keepL a b c m)))]) (fun i => i ≤ (pmL f 81).length) (fun i => (pmL f 81).length - i) 0 ?_
  intro s0 e
  simp -dsimp at e
  subst e
  refine ⟨?_, ?_⟩
  · simp
  intro i hi
  have hfl := flt_len (fun m => keepL a b c m) (pmL f 81) i
  simp -dsimp [-Prod.forall, -Prod.exists]
  refine ⟨fun h5 => ⟨h5, fun m hm => ?_⟩, fun h5 => ?_⟩
  · have hpm := List.mem_of_getElem? hm
    obtain ⟨p, q', r, s⟩ := m
    obtain ⟨A', B', C', hk, w1⟩ := s_simage a b c p q' r s h (pm_facts hf ((pmL_mem hf _ _ _ _).1 hpm))
    have hsu := flt_succ (p := fun m => keepL a b c m) hm
    refine call_of (w1) rfl (by simp) ?_
    try simp -dsimp
    try (first | exact fp_one (by decide) | refine fp_and (by decide) ?_)
    refine ⟨?_, fun e => ?_⟩
    · rintro rfl rfl rfl
      refine ⟨h5, fun p1 p2 p3 p4 hm' => ?_⟩
      rw [hm] at hm'
      cases hm'
      refine ⟨⟨by omega, by omega⟩, i + 1, ⟨by rw [w64 (by omega) (by omega)]; simp, ?_⟩, by omega, by omega⟩
      rw [hsu, if_pos (hk.1 rfl)]
    · refine ⟨i + 1, ⟨by rw [w64 (by omega) (by omega)]; simp, ?_⟩, by omega, by omega⟩
      rw [hsu, if_neg (fun hkk => by
        have := hk.2 hkk
        simp only [Prod.mk.injEq] at this
        exact e this.1 this.2.1 this.2.2)]
  · rw [List.take_of_length_le h5]
def rwG (a b c : Int) (l : List Int) (m : M4) (k : Nat) : List G6 := (((cl a c).take k).filter fun v => kpB a b c l (m, v)).map fun v => (m, v)
theorem rwG_succ {a b c : Int} {l : List Int} {m : M4} {k : Nat} {v : Int × Int} (h : (cl a c)[k]? = some v) : rwG a b c l m (k + 1) = if kpB a b c l (m, v) = true then rwG a b c l m k ++ [(m, v)] else rwG a b c l m k := by
  unfold rwG
  rw [flt_succ h]
  cases hm : kpB a b c l (m, v) <;> simp
theorem rwG_len (a b c : Int) (l : List Int) (m : M4) (k : Nat) : (rwG a b c l m k).length ≤ k := by
  rw [rwG, List.length_map]
  exact flt_len _ _ _
def gpG (a b c : Int) (l : List Int) (M : List M4) : List G6 := M.flatMap fun m => rwG a b c l m (cl a c).length
theorem gpG_succ {a b c : Int} {l : List Int} {M : List M4} {i : Nat} {m : M4} (h : M[i]? = some m) : gpG a b c l (M.take (i + 1)) = gpG a b c l (M.take i) ++ rwG a b c l m (cl a c).length := by
  simp [gpG, List.take_add_one, h]
theorem gpG_len (a b c : Int) (l : List Int) : ∀ M : List M4, (gpG a b c l M).length ≤ M.length * (cl a c).length
  | [] => by simp [gpG]
  | m :: M => by
    have h1 := rwG_len a b c l m (cl a c).length
    have h2 := gpG_len a b c l M
    rw [show gpG a b c l (m :: M) = rwG a b c l m (cl a c).length ++ gpG a b c l M from rfl, List.length_append, List.length_cons, Nat.add_mul, Nat.one_mul]
    omega
theorem mt_small {f a b c : Int} {m : M4} (h : m ∈ mtL f a b c) : (m.1.natAbs ≤ 1 ∧ m.2.1.natAbs ≤ 1) ∧ m.2.2.1.natAbs ≤ 1 ∧ m.2.2.2.natAbs ≤ 1 := pmL_small (Nat.le_refl _) (List.mem_filter.1 h).1
theorem mt_G {f a b c : Int} {m : M4} (h : m ∈ mtL f a b c) {x y : Int} (ha : 1 ≤ a ∧ a ≤ 64) (hc : 1 ≤ c ∧ c ≤ 64) (k : (0 ≤ x ∧ x < a) ∧ 0 ≤ y ∧ y < c) : smallG (m, x, y) := by
  obtain ⟨h1, h2⟩ := mt_small h
  unfold smallG
  simp only
  omega
theorem s_group (f a b c : Int) (l : List Int) (hf : okP f a b c l = true) : Sp Try.prog 96 [aP f a b c l] (.sli 0) [.row 6 63 (gs (gpG a b c l (mtL f a b c)))] := by
  obtain ⟨h0, h2, h3, _⟩ := okP_spec.1 hf
  obtain ⟨ha, hc, hb, hac⟩ := okL_spec.1 h2
  have h1 := ac_pos ha.1 hc.1
  have hn := nat_n ha.1 hc.1 h3
  have hcl : (cl a c).length = l.length := by rw [cellsL_len, hn]
  have hM : (mtL f a b c).length ≤ 12 := Nat.le_trans (List.length_filter_le _ _) (pm_count f h0)
  refine sp_of (m := no) mixed Try.func96 k96 ?_
  simp -dsimp [q]
  refine call_of (s_lm f a b c h0 ha hb hc) rfl (by simp) ?_
  try simp -dsimp
  try (first | exact fp_one (by decide) | refine fp_and (by decide) ?_)
  refine awp_it (false :: true :: false :: true :: false :: false :: false :: false :: false :: false :: false :: false :: false :: true :: true :: true :: []) (fun i : Nat => [(15, vi i)]) (fun i => [(1, .row 6 63 (gs (gpG a b c l ((mtL f a b c).take i))))]) (fun i => i ≤ (mtL f a b c).length) (fun i => (mtL f a b c).length - i) 0 ?_
  intro s0 e
  simp -dsimp at e
  subst e
  refine ⟨?_, ?_⟩
  · simp [gpG]
  intro i hi
  have hgl := gpG_len a b c l ((mtL f a b c).take i)
  have hgl2 : ((mtL f a b c).take i).length * (cl a c).length ≤ 12 * 64 := Nat.mul_le_mul (by rw [List.length_take]; omega) (by omega)
  simp -dsimp [-Prod.forall, -Prod.exists]
  refine ⟨fun h5 => ⟨h5, fun m hm => ?_⟩, fun h5 => ?_⟩
  · have h5' : i < (mtL f a b c).length := h5
    have hgs := gpG_succ (a := a) (b := b) (c := c) (l := l) hm
    have hmm := List.mem_of_getElem? hm
    refine call_of (s_cells a b c ha hc) rfl (by simp) ?_
    try simp -dsimp
    try (first | exact fp_one (by decide) | refine fp_and (by decide) ?_)
    refine awp_it (false :: true :: false :: true :: false :: true :: false :: false :: false :: false :: false :: false :: false :: true :: true :: true :: false :: false :: false :: false :: false :: true :: true :: true :: []) (fun k : Nat => [(23, vi k)]) (fun k => [(1, .row 6 63 (gs (gpG a b c l ((mtL f a b c).take i) ++ rwG a b c l m k)))]) (fun k => k ≤ l.length) (fun k => l.length - k) 0 ?_
    intro s0 e
    simp -dsimp at e
    subst e
    refine ⟨?_, ?_⟩
    · simp [rwG]
    intro k hk
    have hrl := rwG_len a b c l m k
    simp -dsimp [cellsL_len, hn]
    refine ⟨fun h6 => ⟨by omega, fun x y hxy => ?_⟩, fun h6 => ?_⟩
    · obtain ⟨k1, _, _⟩ := cell_of ha.1 hc.1 hxy
      have w1 := s_keeps f a b c l (m, x, y) hf (mt_G hmm ha hc k1)
      have hsu := rwG_succ (b := b) (l := l) (m := m) hxy
      refine call_of (w1) rfl (by simp) ?_
      try simp -dsimp
      try (first | exact fp_one (by decide) | refine fp_and (by decide) ?_)
      refine ⟨fun e => ⟨⟨by omega, by omega⟩, k + 1, ⟨by rw [w64 (by omega) (by omega)]; simp, ?_⟩, by omega, by omega⟩, fun e => ⟨k + 1, ⟨by rw [w64 (by omega) (by omega)]; simp, ?_⟩, by omega, by omega⟩⟩
      · rw [hsu, if_pos e]
      · rw [hsu, if_neg (by rw [e]; simp)]
    · refine ⟨i + 1, ⟨by rw [w64 (by omega) (by omega)]; simp, ?_⟩, by omega, by omega⟩
      rw [hgs, show (cl a c).length = k by omega]
  · rw [List.take_of_length_le h5]
theorem s_sgroup (f a b c : Int) (l : List Int) (hf : okP f a b c l = true) : Sp Try.prog 93 [aP f a b c l] (.sli 0) [.row 6 63 (gs (gpG a b c l (mtL f a b c)))] := by
  obtain ⟨h0, h2, h3, _⟩ := okP_spec.1 hf
  obtain ⟨ha, hc, hb, hac⟩ := okL_spec.1 h2
  have h1 := ac_pos ha.1 hc.1
  have hn := nat_n ha.1 hc.1 h3
  have hcl : (cl a c).length = l.length := by rw [cellsL_len, hn]
  have hM : (mtL f a b c).length ≤ 12 := Nat.le_trans (List.length_filter_le _ _) (pm_count f h0)
  refine sp_of (m := no) mixed Try.func93 k93 ?_
  simp -dsimp [q]
  refine call_of (s_stable f a b c h0 h2) rfl (by simp) ?_
  try simp -dsimp
  try (first | exact fp_one (by decide) | refine fp_and (by decide) ?_)
  refine call_of (s_scells a b c ha hc) rfl (by simp) ?_
  try simp -dsimp
  try (first | exact fp_one (by decide) | refine fp_and (by decide) ?_)
  refine awp_it (false :: true :: false :: true :: true :: true :: true :: []) (fun i : Nat => [(6, vi i)]) (fun i => [(2, .row 6 63 (gs (gpG a b c l ((mtL f a b c).take i))))]) (fun i => i ≤ (mtL f a b c).length) (fun i => (mtL f a b c).length - i) 0 ?_
  intro s0 e
  simp -dsimp at e
  subst e
  refine ⟨?_, ?_⟩
  · simp [gpG]
  intro i hi
  have hgl := gpG_len a b c l ((mtL f a b c).take i)
  have hgl2 : ((mtL f a b c).take i).length * (cl a c).length ≤ 12 * 64 := Nat.mul_le_mul (by rw [List.length_take]; omega) (by omega)
  simp -dsimp [-Prod.forall, -Prod.exists]
  refine ⟨fun h5 => ?_, fun h5 => ?_⟩
  · obtain ⟨m, hm⟩ : ∃ m, (mtL f a b c)[i]? = some m := ⟨_, List.getElem?_eq_getElem h5⟩
    have hgs := gpG_succ (a := a) (b := b) (c := c) (l := l) hm
    have hmm := List.mem_of_getElem? hm
    refine awp_it (false :: true :: false :: true :: true :: true :: true :: true :: []) (fun k : Nat => [(7, vi k)]) (fun k => [(2, .row 6 63 (gs (gpG a b c l ((mtL f a b c).take i) ++ rwG a b c l m k)))]) (fun k => k ≤ l.length) (fun k => l.length - k) 0 ?_
    intro s0 e
    simp -dsimp at e
    subst e
    refine ⟨?_, ?_⟩
    · simp [rwG]
    intro k hk
    have hrl := rwG_len a b c l m k
    simp -dsimp [cellsL_len, hn, hm]
    refine ⟨fun h6 => ⟨by omega, ⟨by omega, fun x y hxy => ?_⟩⟩, fun h6 => ?_⟩
    · obtain ⟨k1, _, _⟩ := cell_of ha.1 hc.1 hxy
      have w1 := s_skeepsP f a b c l (m, x, y) hf (mt_G hmm ha hc k1)
      have hsu := rwG_succ (b := b) (l := l) (m := m) hxy
      refine ⟨by decide, ?_⟩
      refine call_of (w1) rfl (by simp) ?_
      try simp -dsimp
      try (first | exact fp_one (by decide) | refine fp_and (by decide) ?_)
      refine ⟨fun e => ⟨⟨by omega, by omega⟩, k + 1, ⟨by rw [w64 (by omega) (by omega)]; simp, ?_⟩, by omega, by omega⟩, fun e => ⟨k + 1, ⟨by rw [w64 (by omega) (by omega)]; simp, ?_⟩, by omega, by omega⟩⟩
      · rw [hsu, if_pos e]
      · rw [hsu, if_neg (by rw [e]; simp)]
    · refine ⟨i + 1, ⟨by rw [w64 (by omega) (by omega)]; simp, ?_⟩, by omega, by omega⟩
      rw [hgs, show (cl a c).length = k by omega]
  · rw [List.take_of_length_le h5]
theorem gp_small {f a b c : Int} {l : List Int} (ha : 1 ≤ a ∧ a ≤ 64) (hc : 1 ≤ c ∧ c ≤ 64) : ∀ g ∈ gpG a b c l (mtL f a b c), smallG g := by
  intro g hg
  obtain ⟨m, hm, hg⟩ := List.mem_flatMap.1 hg
  obtain ⟨v, hv, rfl⟩ := List.mem_map.1 hg
  obtain ⟨i, hi⟩ := List.mem_iff_getElem?.1 (List.mem_of_mem_take (List.mem_filter.1 hv).1)
  exact mt_G hm ha hc (cl_at ha.1 hc.1 hi).1
theorem s_fixing (a b c : Int) (l : List G6) (x y : Int) (ha : 1 ≤ a ∧ a ≤ 64) (hb : 0 ≤ b ∧ b < a) (hc : 1 ≤ c ∧ c ≤ 64) (hl : l.length ≤ 1048576) (hsm : ∀ g ∈ l, smallG g) (hx : x.natAbs ≤ 1000 ∧ y.natAbs ≤ 1000) : Sp Try.prog 94 [aL a b c, .v (vgs l), aV x y] (vi (stL a b c (x, y) l).length) [] := by
  refine sp_of (m := no) mixed Try.func94 k94 ?_
  simp -dsimp [q]
  refine awp_it (false :: true :: false :: true :: false :: true :: false :: true :: true :: []) (fun i : Nat => [(7, vi (stL a b c (x, y) (l.take i)).length), (8, vi i)]) (fun i => []) (fun i => i ≤ l.length) (fun i => l.length - i) 0 ?_
  intro s0 e
  simp -dsimp at e
  subst e
  refine ⟨?_, ?_⟩
  · simp [stL]
  intro i hi
  simp -dsimp [-Prod.forall, -Prod.exists]
  refine ⟨fun h1 => ⟨h1, fun g hg => ?_⟩, fun h1 => ?_⟩
  · have w3 := s_smove a b c g x y (hsm g (List.mem_of_getElem? hg)) ha hb hc hx
    have hcd := mvB_cdec a b c x y x y g
    have hsl := stL_len a b c (x, y) (l.take i)
    have hss := stL_succ (a := a) (b := b) (c := c) (v := (x, y)) hg
    rw [List.length_take] at hsl
    refine call_of w3 rfl (by simp) ?_
    simp -dsimp [hcd, -Prod.forall, -Prod.exists]
    refine ⟨fun hp => ⟨i + 1, ⟨?_, by rw [w64 (by omega) (by omega)]; simp⟩, by omega, by omega⟩, fun hp => ⟨i + 1, ⟨?_, by rw [w64 (by omega) (by omega)]; simp⟩, by omega, by omega⟩⟩
    · rw [hss, if_pos hp, w64 (by omega) (by omega), List.length_append]
      simp
    · rw [hss, if_neg (by rw [hp]; simp)]
  · rw [List.take_of_length_le h1]
end Go.Proofs.YtihkjljafjhniaaEv
namespace Go.Proofs.YtihkjljafjhniaaEv
open Go Go.Proofs
set_option maxRecDepth 10000
set_option maxHeartbeats 1000000
def bs1 (a b c : Int) (G : List G6) (st : (Int × Int) × Nat) (v : Int × Int) : (Int × Int) × Nat := if st.2 < (stL a b c v G).length then (v, (stL a b c v G).length) else st
def bsS (a b c : Int) (G : List G6) (l : List (Int × Int)) : (Int × Int) × Nat := l.foldl (bs1 a b c G) ((0, 0), 0)
theorem bsS_succ {a b c : Int} {G : List G6} {l : List (Int × Int)} {i : Nat} {v : Int × Int} (h : l[i]? = some v) : bsS a b c G (l.take (i + 1)) = if (bsS a b c G (l.take i)).2 < (stL a b c v G).length then (v, (stL a b c v G).length) else bsS a b c G (l.take i) := by
  rw [bsS, List.take_add_one, h, List.foldl_append]
  rfl
theorem s_best (f a b c : Int) (l : List Int) (hl : l.length ≤ 1048576) (hf : okP f a b c l = true) {A' B' C' : Int} {L : List Int} (hf' : okP f A' B' C' L = true) (wl : Sp Try.prog 95 [aP f a b c l] (aP f A' B' C' L) []) : Sp Try.prog 31 [aP f a b c l] (.tu [aV (bsS A' B' C' (gpG A' B' C' L (mtL f A' B' C')) (cl A' C')).1.1 (bsS A' B' C' (gpG A' B' C' L (mtL f A' B' C')) (cl A' C')).1.2, vi (bsS A' B' C' (gpG A' B' C' L (mtL f A' B' C')) (cl A' C')).2, vi 0]) [] := by
  obtain ⟨h0, h2, h3, _⟩ := okP_spec.1 hf'
  obtain ⟨ha, hc, hb, hac⟩ := okL_spec.1 h2
  have h1 := ac_pos ha.1 hc.1
  have hn := nat_n ha.1 hc.1 h3
  have hcl : (cl A' C').length = L.length := by rw [cellsL_len, hn]
  have hM : (mtL f A' B' C').length ≤ 12 := Nat.le_trans (List.length_filter_le _ _) (pm_count f h0)
  have hG : (gpG A' B' C' L (mtL f A' B' C')).length ≤ 768 := Nat.le_trans (gpG_len A' B' C' L _) (Nat.le_trans (Nat.mul_le_mul hM (show (cl A' C').length ≤ 64 by omega)) (by decide))
  have hsm := gp_small (f := f) (a := A') (b := B') (c := C') (l := L) ha hc
  have w1 := s_isP f a b c l hl
  have wg := s_group f A' B' C' L hf'
  rw [hf] at w1
  generalize gpG A' B' C' L (mtL f A' B' C') = G at *
  refine sp_of (m := no) mixed Try.func31 k31 ?_
  simp -dsimp [q]
  refine call_of (w1) rfl (by simp) ?_
  try simp -dsimp
  try (first | exact fp_one (by decide) | refine fp_and (by decide) ?_)
  refine call_of (wl) rfl (by simp) ?_
  try simp -dsimp
  try (first | exact fp_one (by decide) | refine fp_and (by decide) ?_)
  refine call_of (wg) rfl (by simp) ?_
  try simp -dsimp
  try (first | exact fp_one (by decide) | refine fp_and (by decide) ?_)
  refine call_of (s_cells A' B' C' ha hc) rfl (by simp) ?_
  try simp -dsimp
  try (first | exact fp_one (by decide) | refine fp_and (by decide) ?_)
  refine awp_it (false :: false :: true :: false :: false :: true :: true :: true :: true :: false :: false :: false :: false :: false :: false :: false :: false :: false :: false :: false :: false :: false :: false :: true :: true :: true :: []) (fun i : Nat => [(7, vi (bsS A' B' C' G ((cl A' C').take i)).2), (25, vi i)]) (fun i => [(2, bV (bsS A' B' C' G ((cl A' C').take i)).1)]) (fun i => i ≤ L.length) (fun i => L.length - i) 0 ?_
  intro s0 e
  simp -dsimp at e
  subst e
  refine ⟨?_, ?_⟩
  · simp [bsS]
  intro i hi
  simp -dsimp [cellsL_len, hn]
  refine ⟨fun h5 => ⟨by omega, fun x y hxy => ?_⟩, fun h5 => ?_⟩
  · obtain ⟨⟨k1, k2⟩, _, _⟩ := cell_of ha.1 hc.1 hxy
    have hsu : bsS A' B' C' G ((cl A' C').take (i + 1)) = if (bsS A' B' C' G ((cl A' C').take i)).2 < (stL A' B' C' (x, y) G).length then ((x, y), (stL A' B' C' (x, y) G).length) else bsS A' B' C' G ((cl A' C').take i) := bsS_succ hxy
    have hsl := stL_len A' B' C' (x, y) G
    refine call_of (s_stab1 A' B' C' G x y ha hb hc (by omega) hsm ⟨by omega, by omega⟩) rfl (by simp) ?_
    try simp -dsimp
    try (first | exact fp_one (by decide) | refine fp_and (by decide) ?_)
    refine ⟨fun e => ⟨i + 1, ⟨⟨?_, by rw [w64 (by omega) (by omega)]; simp⟩, ?_⟩, by omega, by omega⟩, fun e => ⟨i + 1, ⟨⟨?_, by rw [w64 (by omega) (by omega)]; simp⟩, ?_⟩, by omega, by omega⟩⟩
    · rw [hsu, if_pos e]
    · rw [hsu, if_pos e]; exact ⟨rfl, rfl⟩
    · rw [hsu, if_neg (Nat.not_lt.2 e)]
    · rw [hsu, if_neg (Nat.not_lt.2 e)]; exact ⟨rfl, rfl⟩
  · rw [List.take_of_length_le (by omega)]
    exact ⟨⟨rfl, rfl⟩, rfl⟩
theorem s_sbest (f a b c : Int) (l : List Int) (hl : l.length ≤ 1048576) (hf : okP f a b c l = true) {A' B' C' : Int} {L : List Int} (hf' : okP f A' B' C' L = true) (wl : Sp Try.prog 92 [aP f a b c l] (aP f A' B' C' L) []) : Sp Try.prog 30 [aP f a b c l] (.tu [aV (bsS A' B' C' (gpG A' B' C' L (mtL f A' B' C')) (cl A' C')).1.1 (bsS A' B' C' (gpG A' B' C' L (mtL f A' B' C')) (cl A' C')).1.2, vi (bsS A' B' C' (gpG A' B' C' L (mtL f A' B' C')) (cl A' C')).2, vi 0]) [] := by
  obtain ⟨h0, h2, h3, _⟩ := okP_spec.1 hf'
  obtain ⟨ha, hc, hb, hac⟩ := okL_spec.1 h2
  have h1 := ac_pos ha.1 hc.1
  have hn := nat_n ha.1 hc.1 h3
  have hcl : (cl A' C').length = L.length := by rw [cellsL_len, hn]
  have hM : (mtL f A' B' C').length ≤ 12 := Nat.le_trans (List.length_filter_le _ _) (pm_count f h0)
  have hG : (gpG A' B' C' L (mtL f A' B' C')).length ≤ 768 := Nat.le_trans (gpG_len A' B' C' L _) (Nat.le_trans (Nat.mul_le_mul hM (show (cl A' C').length ≤ 64 by omega)) (by decide))
  have hsm := gp_small (f := f) (a := A') (b := B') (c := C') (l := L) ha hc
  have w1 := s_sisP f a b c l hl
  have wg := s_sgroup f A' B' C' L hf'
  rw [hf] at w1
  generalize gpG A' B' C' L (mtL f A' B' C') = G at *
  refine sp_of (m := no) mixed Try.func30 k30 ?_
  simp -dsimp [q]
  refine call_of (w1) rfl (by simp) ?_
  try simp -dsimp
  try (first | exact fp_one (by decide) | refine fp_and (by decide) ?_)
  refine call_of (wl) rfl (by simp) ?_
  try simp -dsimp
  try (first | exact fp_one (by decide) | refine fp_and (by decide) ?_)
  refine call_of (wg) rfl (by simp) ?_
  try simp -dsimp
  try (first | exact fp_one (by decide) | refine fp_and (by decide) ?_)
  refine call_of (s_scells A' B' C' ha hc) rfl (by simp) ?_
  try simp -dsimp
  try (first | exact fp_one (by decide) | refine fp_and (by decide) ?_)
  refine awp_it (false :: false :: true :: false :: false :: true :: true :: true :: true :: true :: true :: []) (fun i : Nat => [(9, vi (bsS A' B' C' G ((cl A' C').take i)).2), (10, vi i)]) (fun i => [(4, bV (bsS A' B' C' G ((cl A' C').take i)).1)]) (fun i => i ≤ L.length) (fun i => L.length - i) 0 ?_
  intro s0 e
  simp -dsimp at e
  subst e
  refine ⟨?_, ?_⟩
  · simp [bsS]
  intro i hi
  simp -dsimp [cellsL_len, hn]
  refine ⟨fun h5 => ⟨by omega, fun x y hxy => ?_⟩, fun h5 => ?_⟩
  · obtain ⟨⟨k1, k2⟩, _, _⟩ := cell_of ha.1 hc.1 hxy
    have hsu : bsS A' B' C' G ((cl A' C').take (i + 1)) = if (bsS A' B' C' G ((cl A' C').take i)).2 < (stL A' B' C' (x, y) G).length then ((x, y), (stL A' B' C' (x, y) G).length) else bsS A' B' C' G ((cl A' C').take i) := bsS_succ hxy
    have hsl := stL_len A' B' C' (x, y) G
    refine call_of (s_fixing A' B' C' G x y ha hb hc (by omega) hsm ⟨by omega, by omega⟩) rfl (by simp) ?_
    try simp -dsimp
    try (first | exact fp_one (by decide) | refine fp_and (by decide) ?_)
    refine ⟨fun e => ⟨by rw [cellsL_len, hn]; exact h5, fun x' y' hxy' => ?_⟩, fun e => ⟨i + 1, ⟨⟨?_, by rw [w64 (by omega) (by omega)]; simp⟩, ?_⟩, by omega, by omega⟩⟩
    · rw [hxy] at hxy'
      cases hxy'
      rw [if_pos e] at hsu
      refine ⟨i + 1, ⟨⟨?_, by rw [w64 (by omega) (by omega)]; simp⟩, ?_⟩, by omega, by omega⟩
      · rw [hsu]
      · rw [hsu]; exact ⟨rfl, rfl⟩
    · rw [hsu, if_neg (Nat.not_lt.2 e)]
    · rw [hsu, if_neg (Nat.not_lt.2 e)]; exact ⟨rfl, rfl⟩
  · rw [List.take_of_length_le (by omega)]
    exact ⟨⟨rfl, rfl⟩, rfl⟩
theorem best_both (f a b c : Int) (l : List Int) (hl : l.length ≤ 1048576) : ∃ x y n k, Sp Try.prog 30 [aP f a b c l] (.tu [aV x y, vi n, vi k]) [] ∧ Sp Try.prog 31 [aP f a b c l] (.tu [aV x y, vi n, vi k]) [] := by
  by_cases h1 : okP f a b c l = true
  case neg =>
    simp only [Bool.not_eq_true] at h1
    refine ⟨0, 0, 0, 1, ?_, ?_⟩
    · have w1 := s_sisP f a b c l hl
      rw [h1] at w1
      refine sp_of (m := no) mixed Try.func30 k30 ?_
      simp -dsimp [q]
      refine call_of (w1) rfl (by simp) ?_
      try simp -dsimp
      try (first | exact fp_one (by decide) | refine fp_and (by decide) ?_)
    · have w1 := s_isP f a b c l hl
      rw [h1] at w1
      refine sp_of (m := no) mixed Try.func31 k31 ?_
      simp -dsimp [q]
      refine call_of (w1) rfl (by simp) ?_
      try simp -dsimp
      try (first | exact fp_one (by decide) | refine fp_and (by decide) ?_)
  obtain ⟨A', B', C', L, h2, wi, ws⟩ := lean_both h1
  exact ⟨_, _, _, _, s_sbest f a b c l hl h1 h2 ws, s_best f a b c l hl h1 h2 wi⟩
end Go.Proofs.YtihkjljafjhniaaEv
