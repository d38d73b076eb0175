/- What the code computes, and what it means: part 3 of the proof of FnExactPrintShifted. No condition of its own. -/
import Derived.Deep.Slices
import Derived.WalkKit
import Derived.OpenShut
import Derived.ShutString
import Derived.ChangeOld
import Derived.SizedLaws
import Derived.Test.YtihkjljafjhniaaCXPrintShifted2
namespace Go.Proofs.YtihkjljafjhniaaEv
open Go Go.Proofs
set_option maxRecDepth 10000
theorem lf_one {a : Int} (ha : 0 < a) : lstep (0, 0, 0) (a, 0) = (a, 0, 0) ∧ lstepS (0, 0, 0) (a, 0) = (a, 0, 0) := by
  have h : (a.natAbs : Int) = a := by omega
  simp [lstep, lstepS, eu, h]
theorem eu_two {a b c : Int} (hc : 0 < c) : eu c.natAbs (0, 0) (b, c) = ((b, c), (0, 0)) := by
  have h := eu_step (h := (0, 0)) (v := (b, c)) (show c ≠ 0 by omega)
  simp only at h
  rw [h]
  simp [eu]
theorem lf_two {a b c : Int} (ha : 0 < a) (hc : 0 < c) : lstep (a, 0, 0) (b, c) = (a, b, c) ∧ lstepS (a, 0, 0) (b, c) = (a, b % a, c) := by
  have h : (a.natAbs : Int) = a := by omega
  simp only [lstep, lstepS, eu_two (a := a) (b := b) hc, Int.gcd_zero_right, h, if_pos ha, and_self]
theorem lf_basis {a b c : Int} (ha : 0 < a) (hc : 0 < c) : lfold [(a, 0), (b, c)] = (a, b, c) ∧ lfoldS [(a, 0), (b, c)] = (a, b % a, c) := by
  simp only [lfold, lfoldS, List.foldl_cons, List.foldl_nil, lf_one ha, lf_two ha hc, and_self]
theorem take2 {α : Type} (x y : α) (P : List α → Prop) (h0 : P []) (h1 : P [x]) (h2 : P [x, y]) : ∀ k, P (([x, y] : List α).take k)
  | 0 => h0
  | 1 => h1
  | k + 2 => by simpa using h2
theorem ls_basis {a b c : Int} (ha : 1 ≤ a ∧ a ≤ 64) (hb : 0 ≤ b ∧ b < a) (hc : 1 ≤ c ∧ c ≤ 64) : lsmall [(a, 0), (b, c)] ∧ lsmallS [(a, 0), (b, c)] := by
  have hv : ∀ v ∈ ([(a, 0), (b, c)] : List (Int × Int)), smallV 1000000 v := by
    intro v hv
    simp only [List.mem_cons, List.not_mem_nil, or_false] at hv
    rcases hv with rfl | rfl <;> exact ⟨by simp only; omega, by simp only; omega⟩
  have h1 := lf_one (a := a) (by omega)
  have h2 := lf_basis (a := a) (b := b) (c := c) (by omega) (by omega)
  have h3 : b % a = b := Int.emod_eq_of_lt hb.1 hb.2
  refine ⟨⟨hv, take2 _ _ (fun l => smallV 1000000 (lfold l).2 ∧ (lfold l).1.natAbs ≤ 1000000) ?_ ?_ ?_⟩, hv, take2 _ _ (fun l => smallV 1000000 (lfoldS l).2 ∧ (lfoldS l).1.natAbs ≤ 1000000) ?_ ?_ ?_⟩
  · simp [lfold, smallV]
  · simp only [lfold, List.foldl_cons, List.foldl_nil, h1.1, smallV]; omega
  · rw [h2.1]; simp only [smallV]; omega
  · simp [lfoldS, smallV]
  · simp only [lfoldS, List.foldl_cons, List.foldl_nil, h1.2, smallV]; omega
  · rw [h2.2]; simp only [smallV]; omega
theorem s_latticeOf_basis (a b c : Int) (ha : 1 ≤ a ∧ a ≤ 64) (hb : 0 ≤ b ∧ b < a) (hc : 1 ≤ c ∧ c ≤ 64) : Sp Try.prog 150 [.v (vvs [(a, 0), (b, c)])] (aL a b c) [] := by
  have h := s_latticeOf [(a, 0), (b, c)] (by simp) (ls_basis ha hb hc).1 (by rw [(lf_basis (by omega) (by omega)).1]; simp only; omega)
  rw [(lf_basis (by omega) (by omega)).1] at h
  simp only [lfin, if_neg (show ¬ c < 0 by omega), Int.emod_eq_of_lt hb.1 hb.2] at h
  exact h
theorem s_hermite_basis (a b c : Int) (ha : 1 ≤ a ∧ a ≤ 64) (hb : 0 ≤ b ∧ b < a) (hc : 1 ≤ c ∧ c ≤ 64) : Sp Try.prog 196 [.v (vvs [(a, 0), (b, c)])] (aL a b c) [] := by
  have h := s_hermite [(a, 0), (b, c)] (by simp) (ls_basis ha hb hc).2 (by rw [(lf_basis (by omega) (by omega)).2]; simp only; omega)
  rw [(lf_basis (by omega) (by omega)).2] at h
  simp only [lfin, if_neg (show ¬ c < 0 by omega), Int.emod_eq_of_lt hb.1 hb.2] at h
  exact h
theorem s_sbasisL (a b c : Int) : Sp Try.prog 195 [aL a b c] (.v (.sl 2 [.ag [.int .i64 a, .int .i64 0], .ag [.int .i64 b, .int .i64 c]])) [] := s_sbasis a b c
theorem s_image1 (a b c : Int) (ha : 1 ≤ a ∧ a ≤ 64) (hb : 0 ≤ b ∧ b < a) (hc : 1 ≤ c ∧ c ≤ 64) : Sp Try.prog 144 [aM 1 0 0 1, aL a b c] (aL a b c) [] := by
  refine sp_of (m := no) mixed Try.func144 k144 ?_
  simp -dsimp [q]
  refine call_of (s_sbasisL a b c) rfl (by simp) ?_
  try simp -dsimp
  try (first | exact fp_one (by decide) | refine fp_and (by decide) ?_)
  refine call_of (s_sapply 1 0 0 1 a 0 (by decide) ⟨by omega, by omega⟩) rfl (by simp) ?_
  try simp -dsimp
  try (first | exact fp_one (by decide) | refine fp_and (by decide) ?_)
  refine call_of (s_sapply 1 0 0 1 b c (by decide) ⟨by omega, by omega⟩) rfl (by simp) ?_
  try simp -dsimp
  try (first | exact fp_one (by decide) | refine fp_and (by decide) ?_)
  refine call_of (s_hermite_basis a b c ha hb hc) rfl (by simp) ?_
  try simp -dsimp
  try (first | exact fp_one (by decide) | refine fp_and (by decide) ?_)
abbrev mvI (a b c u v : Int) (l : List Int) (n : Nat) : List Int := (List.range n).map fun j => l.getD (mv a b c (-u) (-v) j) 0
theorem mvI_take {a b c u v : Int} {l : List Int} {n i : Nat} (hi : i < n) : (mvI a b c u v l n).take (i + 1) = (mvI a b c u v l n).take i ++ [l.getD (mv a b c (-u) (-v) i) 0] := by
  rw [List.take_add_one]
  simp [mvI, List.getElem?_range hi]
theorem mvI_len {a b c u v : Int} {l : List Int} {n : Nat} : (mvI a b c u v l n).length = n := by simp [mvI]
theorem s_move1 (f a b c u v : Int) (l : List Int) (hf : okP f a b c l = true) (hu : u.natAbs ≤ 1000) (hv : v.natAbs ≤ 1000) : Sp Try.prog 81 [aP f a b c l, aG 1 0 0 1 u v] (aP f a b c (mvI a b c u v l l.length)) [] := by
  obtain ⟨_, h2, h3, _⟩ := okP_spec.1 hf
  obtain ⟨ha, hc, hb, hac⟩ := okL_spec.1 h2
  have h1 := ac_pos ha.1 hc.1
  have hn := nat_n ha.1 hc.1 h3
  refine sp_of (m := no) mixed Try.func81 k81 ?_
  simp -dsimp [q]
  refine call_of (s_basis a b c) rfl (by simp) ?_
  try simp -dsimp
  try (first | exact fp_one (by decide) | refine fp_and (by decide) ?_)
  refine call_of (s_apply 1 0 0 1 a 0 (by decide) ⟨by omega, by omega⟩) rfl (by simp) ?_
  try simp -dsimp
  try (first | exact fp_one (by decide) | refine fp_and (by decide) ?_)
  refine call_of (s_apply 1 0 0 1 b c (by decide) ⟨by omega, by omega⟩) rfl (by simp) ?_
  try simp -dsimp
  try (first | exact fp_one (by decide) | refine fp_and (by decide) ?_)
  refine call_of (s_latticeOf_basis a b c ha hb hc) rfl (by simp) ?_
  try simp -dsimp
  try (first | exact fp_one (by decide) | refine fp_and (by decide) ?_)
  refine call_of (s_ginv1 u v (by omega) (by omega)) rfl (by simp) ?_
  try simp -dsimp
  try (first | exact fp_one (by decide) | refine fp_and (by decide) ?_)
  refine call_of (s_cells a b c ha hc) rfl (by simp) ?_
  try simp -dsimp
  try (first | exact fp_one (by decide) | refine fp_and (by decide) ?_)
  refine awp_it (false :: false :: true :: false :: true :: false :: false :: true :: true :: false :: false :: false :: false :: false :: false :: false :: false :: false :: false :: false :: false :: false :: false :: false :: false :: false :: false :: false :: false :: false :: false :: false :: false :: false :: true :: true :: true :: []) (fun i : Nat => [(36, vi i)]) (fun i => match i with | 0 => [] | i + 1 => [(2, .box [vi f, vi a, vi b, vi c, .sli 5]), (5, .row 0 2 (is ((mvI a b c u v l l.length).take (i + 1))))]) (fun i => i ≤ l.length) (fun i => l.length - i) 0 ?_
  intro s0 e
  simp -dsimp at e
  subst e
  refine ⟨?_, ?_⟩
  · simp
  intro i hi
  cases i with
  | zero =>
    simp -dsimp [cellsL_len, hn]
    refine ⟨fun _ => ⟨by omega, fun x y hxy => ?_⟩, by rintro rfl; simp at h3; omega⟩
    obtain ⟨⟨k1, k2⟩, k3, _⟩ := cell_of ha.1 hc.1 hxy
    have k4 := k3 b (-u) (-v)
    have ht := mvI_take (a := a) (b := b) (c := c) (u := u) (v := v) (l := l) (show 0 < l.length by omega)
    simp only [List.take_zero, List.nil_append] at ht
    rw [k4] at ht
    refine call_of (s_gapply 1 0 0 1 (-u) (-v) x y (by decide) ⟨by omega, by omega⟩ ⟨by omega, by omega⟩) rfl (by simp) ?_
    try simp -dsimp
    try (first | exact fp_one (by decide) | refine fp_and (by decide) ?_)
    refine call_of (s_at f a b c (x + -u) (y + -v) l hf (by omega) (by omega)) rfl (by simp) ?_
    try simp -dsimp
    try (first | exact fp_one (by decide) | refine fp_and (by decide) ?_)
    refine ⟨1, ⟨by rw [w64 (by omega) (by omega)]; simp, ?_⟩, by omega, by omega⟩
    simp [ht]
  | succ i =>
    simp -dsimp [cellsL_len, hn]
    refine ⟨fun h5 => ⟨⟨by omega, h5⟩, by omega, fun x y hxy => ?_⟩, fun h5 => ?_⟩
    · obtain ⟨⟨k1, k2⟩, k3, _⟩ := cell_of ha.1 hc.1 hxy
      have k4 := k3 b (-u) (-v)
      have ht := mvI_take (a := a) (b := b) (c := c) (u := u) (v := v) (l := l) (show i + 1 < l.length by omega)
      rw [k4] at ht
      refine call_of (s_gapply 1 0 0 1 (-u) (-v) x y (by decide) ⟨by omega, by omega⟩ ⟨by omega, by omega⟩) rfl (by simp) ?_
      try simp -dsimp
      try (first | exact fp_one (by decide) | refine fp_and (by decide) ?_)
      refine call_of (s_at f a b c (x + -u) (y + -v) l hf (by omega) (by omega)) rfl (by simp) ?_
      try simp -dsimp
      try (first | exact fp_one (by decide) | refine fp_and (by decide) ?_)
      refine ⟨⟨by omega, by omega⟩, by decide, i + 2, ⟨by rw [w64 (by omega) (by omega)]; simp; omega, ?_⟩, by omega, by omega⟩
      simp [ht]
    · rw [List.take_of_length_le (by rw [mvI_len]; omega)]
theorem mvS_eq {a b c u v : Int} {l : List Int} (ha : 0 < a) (hc : 0 < c) (hl : (l.length : Int) = a * c) : setN (fun _ => true) (mv a b c u v) (fun k => l.getD k 0) (List.replicate l.length 0) l.length = mvI a b c u v l l.length := by
  apply List.ext_getElem?
  intro j
  by_cases hj : j < l.length
  · have h1 : mv a b c (-u) (-v) j < l.length := by have := mv_lt (b := b) (u := -u) (v := -v) ha hc j; omega
    rw [setN_get (p := fun _ => true) (i := mv a b c (-u) (-v) j) (m := l.length) (by simpa using hj) h1 (fun k hk => mv_iff ha hc (by omega) (by omega)) l.length (Nat.le_refl _)]
    simp [h1, hj, mvI, List.getElem?_range hj]
  · rw [List.getElem?_eq_none (by rw [setN_len]; simp; omega), List.getElem?_eq_none (by rw [mvI_len]; omega)]
theorem s_smove1 (f a b c u v : Int) (l : List Int) (hf : okP f a b c l = true) (hu : u.natAbs ≤ 1000) (hv : v.natAbs ≤ 1000) : Sp Try.prog 74 [aP f a b c l, aG 1 0 0 1 u v] (aP f a b c (mvI a b c u v l l.length)) [] := by
  obtain ⟨_, h2, h3, _⟩ := okP_spec.1 hf
  obtain ⟨ha, hc, hb, hac⟩ := okL_spec.1 h2
  have h1 := ac_pos ha.1 hc.1
  have hn := nat_n ha.1 hc.1 h3
  rw [← mvS_eq (by omega) (by omega) h3]
  refine sp_of (m := no) mixed Try.func74 k74 ?_
  simp -dsimp [q]
  refine call_of (s_image1 a b c ha hb hc) rfl (by simp) ?_
  try simp -dsimp
  try (first | exact fp_one (by decide) | refine fp_and (by decide) ?_)
  refine call_of (s_scells a b c ha hc) rfl (by simp) ?_
  try simp -dsimp
  try (first | exact fp_one (by decide) | refine fp_and (by decide) ?_)
  simp only [cellsL_len, hn]
  refine ⟨by omega, by decide, ?_⟩
  refine awp_it (false :: false :: true :: true :: true :: true :: true :: true :: true :: []) (fun i : Nat => [(8, vi i)]) (fun i => [(6, .row 0 2 (is (setN (fun _ => true) (mv a b c u v) (fun k => l.getD k 0) (List.replicate l.length 0) i)))]) (fun i => i ≤ l.length) (fun i => l.length - i) 0 ?_
  intro s0 e
  simp -dsimp at e
  subst e
  refine ⟨?_, ?_⟩
  · simp [setN]
  intro i hi
  simp -dsimp [setN_len, cellsL_len, hn]
  refine ⟨fun h5 => ⟨by omega, fun x y hxy => ?_⟩, fun h5 => ?_⟩
  · obtain ⟨⟨k1, k2⟩, k3, _⟩ := cell_of ha.1 hc.1 hxy
    have k4 := k3 b u v
    have k5 := num_range (a := a) (b := b) (c := c) (x := x + u) (y := y + v) (by omega) (by omega)
    refine call_of (s_sgapply 1 0 0 1 u v x y (by decide) ⟨by omega, by omega⟩ ⟨by omega, by omega⟩) rfl (by simp) ?_
    try simp -dsimp
    try (first | exact fp_one (by decide) | refine fp_and (by decide) ?_)
    refine call_of (s_snumber _ _ _ _ _ ha hb hc (by omega) (by omega)) rfl (by simp) ?_
    try simp -dsimp
    try (first | exact fp_one (by decide) | refine fp_and (by decide) ?_)
    refine ⟨h5, fun z hz => ?_⟩
    simp only [setN_len, List.length_replicate]
    refine ⟨⟨by omega, by omega⟩, by omega, by decide, i + 1, ⟨by rw [w64 (by omega) (by omega)]; simp, ?_⟩, by omega, by omega⟩
    simp [setN, k4, hz]
  · rw [show i = l.length by omega]
theorem s_equal (xs ys : List Int) (hx : xs.length ≤ 1048576) : Sp Try.prog 80 [.v (vis xs), .v (vis ys)] (vb (decide (xs = ys))) [] := by
  refine sp_of (m := no) mixed Try.func80 k80 ?_
  simp -dsimp [q]
  refine ⟨fun h e => h (by rw [e]), fun hl => ?_⟩
  refine awp_it (true :: true :: false :: false :: false :: false :: false :: false :: false :: false :: false :: false :: true :: true :: []) (fun i : Nat => [(13, vi i)]) (fun i => []) (fun i => i ≤ xs.length ∧ xs.take i = ys.take i) (fun i => xs.length - i) 0 ?_
  intro s0 e
  simp -dsimp at e
  subst e
  refine ⟨?_, ?_⟩
  · simp
  intro i hi
  simp -dsimp
  obtain ⟨hi, ht⟩ := hi
  refine ⟨fun h1 => ⟨h1, fun a ha => ⟨by omega, fun b hb => ⟨fun hn e => ?_, fun e => ⟨i + 1, by rw [w64 (by omega) (by omega)]; simp, ⟨by omega, ?_⟩, by omega⟩⟩⟩⟩, fun h1 => ?_⟩
  · subst e
    rw [ha] at hb
    cases hb
    exact hn rfl
  · subst e
    rw [List.take_add_one, List.take_add_one, ht, ha, hb]
  · have h2 : i = xs.length := by omega
    subst h2
    rw [List.take_length, List.take_of_length_le (by omega)] at ht
    exact ht
theorem s_ssame (xs ys : List Int) (hx : xs.length ≤ 1048576) : Sp Try.prog 143 [.v (vis xs), .v (vis ys)] (vb (decide (xs = ys))) [] := by
  refine sp_of (m := no) mixed Try.func143 k143 ?_
  simp -dsimp [q]
  refine ⟨fun h e => h (by rw [e]), fun hl => ?_⟩
  refine awp_it (true :: true :: false :: false :: false :: true :: []) (fun i : Nat => [(5, vi i)]) (fun i => []) (fun i => i ≤ xs.length ∧ xs.take i = ys.take i) (fun i => xs.length - i) 0 ?_
  intro s0 e
  simp -dsimp at e
  subst e
  refine ⟨?_, ?_⟩
  · simp
  intro i hi
  simp -dsimp
  obtain ⟨hi, ht⟩ := hi
  refine ⟨fun h1 => ⟨h1, fun a ha => ⟨by omega, fun b hb => ⟨fun hn e => ?_, fun e => ⟨i + 1, by rw [w64 (by omega) (by omega)]; simp, ⟨by omega, ?_⟩, by omega⟩⟩⟩⟩, fun h1 => ?_⟩
  · subst e
    rw [ha] at hb
    cases hb
    exact hn rfl
  · subst e
    rw [List.take_add_one, List.take_add_one, ht, ha, hb]
  · have h2 : i = xs.length := by omega
    subst h2
    rw [List.take_length, List.take_of_length_le (by omega)] at ht
    exact ht
theorem cdec_eq (p : Prop) [Decidable p] : cdec p = decide p := by
  by_cases h : p
  · rw [decide_eq_true h, cdec_true.2 h]
  · rw [decide_eq_false h, cdec_false.2 h]
theorem s_sameCells (f a b c : Int) (l : List Int) (f' a' b' c' : Int) (l' : List Int) : Sp Try.prog 78 [aP f a b c l, aP f' a' b' c' l'] (vb (decide (f = f' ∧ a = a' ∧ b = b' ∧ c = c'))) [] := by
  refine sp_of (m := no) mixed Try.func78 k78 ?_
  simp -dsimp [q, cdec_eq]
  by_cases h : f = f'
  · simp [h]
  · simp [h]
theorem s_ssameP (f a b c : Int) (l : List Int) (f' a' b' c' : Int) (l' : List Int) (hl : l.length ≤ 1048576) : Sp Try.prog 73 [aP f a b c l, aP f' a' b' c' l'] (vb (decide (f = f' ∧ (a = a' ∧ b = b' ∧ c = c') ∧ l = l'))) [] := by
  refine sp_of (m := no) mixed Try.func73 k73 ?_
  simp -dsimp [q, cdec_eq]
  by_cases h1 : f = f'
  case neg => simp [h1]
  by_cases h2 : a = a' ∧ b = b' ∧ c = c'
  case neg =>
    refine ⟨fun _ => ⟨fun e1 e2 e3 => absurd ⟨e1, e2, e3⟩ h2, fun _ => ?_⟩, fun e => absurd h1 e⟩
    exact fun _ e1 e2 e3 => absurd ⟨e1, e2, e3⟩ h2
  obtain ⟨rfl, rfl, rfl⟩ := h2
  subst h1
  refine ⟨fun _ => ⟨fun _ _ _ => ?_, fun h => absurd rfl (h rfl rfl)⟩, fun e => absurd rfl e⟩
  refine call_of (s_ssame l l' hl) rfl (by simp) ?_
  try simp -dsimp
  try (first | exact fp_one (by decide) | refine fp_and (by decide) ?_)
/-! the search -/
def fR : Option (Int × Int) → Int × Int × Int
  | some t => (t.1, t.2, 0)
  | none => (0, 0, 4)
def fF (a b c : Int) (l l' : List Int) : Option (Int × Int) := (cellsL c.toNat a.toNat).find? fun t => decide (mvI a b c t.1 t.2 l l.length = l')
theorem find_hit {α : Type} {l : List α} {p : α → Bool} {i : Nat} {z : α} (hz : l[i]? = some z) (hp : p z = true) (hn : ∀ x ∈ l.take i, p x = false) : l.find? p = some z := by
  obtain ⟨hi, rfl⟩ := List.getElem?_eq_some_iff.1 hz
  refine List.find?_eq_some_iff_getElem.2 ⟨hp, i, hi, rfl, fun j hj => ?_⟩
  simp [hn l[j] (List.mem_take_iff_getElem.2 ⟨j, by omega, rfl⟩)]
theorem find_miss {α : Type} {l : List α} {p : α → Bool} {i : Nat} (hi : l.length ≤ i) (hn : ∀ x ∈ l.take i, p x = false) : l.find? p = none := by
  rw [List.take_of_length_le hi] at hn
  exact List.find?_eq_none.2 (fun x hx => by simp [hn x hx])
theorem mem_take_succ {α : Type} {l : List α} {i : Nat} {z x : α} (hz : l[i]? = some z) (hx : x ∈ l.take (i + 1)) : x ∈ l.take i ∨ x = z := by
  rw [List.take_add_one, hz] at hx
  simpa using hx
theorem s_find (f a b c : Int) (l l' : List Int) (hf : okP f a b c l = true) (hf' : okP f a b c l' = true) (hl : l.length ≤ 1048576) (hl' : l'.length ≤ 1048576) : Sp Try.prog 17 [aP f a b c l, aP f a b c l'] (.tu [aV (fR (fF a b c l l')).1 (fR (fF a b c l l')).2.1, vi (fR (fF a b c l l')).2.2]) [] := by
  obtain ⟨_, h2, h3, _⟩ := okP_spec.1 hf
  obtain ⟨ha, hc, hb, hac⟩ := okL_spec.1 h2
  have h1 := ac_pos ha.1 hc.1
  have hn := nat_n ha.1 hc.1 h3
  have w1 := s_isP f a b c l hl
  have w2 := s_isP f a b c l' hl'
  have w3 := s_sameCells f a b c l f a b c l'
  rw [hf] at w1
  rw [hf'] at w2
  simp only [and_self, decide_true] at w3
  refine sp_of (m := no) mixed Try.func17 k17 ?_
  simp -dsimp [q]
  refine call_of (w1) rfl (by simp) ?_
  try simp -dsimp
  try (first | exact fp_one (by decide) | refine fp_and (by decide) ?_)
  refine call_of (w2) rfl (by simp) ?_
  try simp -dsimp
  try (first | exact fp_one (by decide) | refine fp_and (by decide) ?_)
  refine call_of (w3) rfl (by simp) ?_
  try simp -dsimp
  try (first | exact fp_one (by decide) | refine fp_and (by decide) ?_)
  refine call_of (s_cells a b c ha hc) rfl (by simp) ?_
  try simp -dsimp
  try (first | exact fp_one (by decide) | refine fp_and (by decide) ?_)
  refine awp_it (false :: false :: true :: true :: true :: false :: false :: false :: false :: false :: false :: false :: false :: false :: false :: false :: false :: false :: false :: false :: false :: false :: false :: false :: true :: true :: true :: []) (fun i : Nat => [(26, vi i)]) (fun i => []) (fun i => i ≤ l.length ∧ ∀ t ∈ (cellsL c.toNat a.toNat).take i, decide (mvI a b c t.1 t.2 l l.length = l') = false) (fun i => l.length - i) 0 ?_
  intro s0 e
  simp -dsimp at e
  subst e
  refine ⟨?_, ?_⟩
  · simp
  rintro i ⟨hi, hno⟩
  simp -dsimp [cellsL_len, hn]
  refine ⟨fun h5 => ⟨by omega, fun x y hxy => ?_⟩, fun h5 => ?_⟩
  · obtain ⟨⟨k1, k2⟩, _, _⟩ := cell_of ha.1 hc.1 hxy
    refine call_of (s_unit) rfl (by simp) ?_
    try simp -dsimp
    try (first | exact fp_one (by decide) | refine fp_and (by decide) ?_)
    refine call_of (s_move1 f a b c x y l hf (by omega) (by omega)) rfl (by simp) ?_
    try simp -dsimp
    try (first | exact fp_one (by decide) | refine fp_and (by decide) ?_)
    refine call_of (s_equal _ _ (by simp; omega)) rfl (by simp) ?_
    try simp -dsimp
    try (first | exact fp_one (by decide) | refine fp_and (by decide) ?_)
    refine ⟨fun e => ?_, fun e => ⟨i + 1, by rw [w64 (by omega) (by omega)]; simp, ⟨by omega, fun x' y' ht => ?_⟩, by omega⟩⟩
    · have : fF a b c l l' = some (x, y) := find_hit hxy (decide_eq_true e) hno
      simp [this, fR]
    · rcases mem_take_succ hxy ht with h | h
      · simpa using hno _ h
      · cases h; exact e
  · have : fF a b c l l' = none := find_miss (by rw [cellsL_len, hn]; exact h5) hno
    simp [this, fR]
theorem s_sfind (f a b c : Int) (l l' : List Int) (hf : okP f a b c l = true) (hf' : okP f a b c l' = true) (hl : l.length ≤ 1048576) (hl' : l'.length ≤ 1048576) : Sp Try.prog 15 [aP f a b c l, aP f a b c l'] (.tu [aV (fR (fF a b c l l')).1 (fR (fF a b c l l')).2.1, vi (fR (fF a b c l l')).2.2]) [] := by
  obtain ⟨_, h2, h3, _⟩ := okP_spec.1 hf
  obtain ⟨ha, hc, hb, hac⟩ := okL_spec.1 h2
  have h1 := ac_pos ha.1 hc.1
  have hn := nat_n ha.1 hc.1 h3
  have w1 := s_sisP f a b c l hl
  have w2 := s_sisP f a b c l' hl'
  rw [hf] at w1
  rw [hf'] at w2
  refine sp_of (m := no) mixed Try.func15 k15 ?_
  simp -dsimp [q, cdec_eq]
  refine call_of (w1) rfl (by simp) ?_
  try simp -dsimp
  try (first | exact fp_one (by decide) | refine fp_and (by decide) ?_)
  refine call_of (w2) rfl (by simp) ?_
  try simp -dsimp
  try (first | exact fp_one (by decide) | refine fp_and (by decide) ?_)
  refine call_of (s_scells a b c ha hc) rfl (by simp) ?_
  try simp -dsimp
  try (first | exact fp_one (by decide) | refine fp_and (by decide) ?_)
  refine awp_it (false :: false :: true :: true :: true :: false :: true :: true :: []) (fun i : Nat => [(7, vi i)]) (fun i => []) (fun i => i ≤ l.length ∧ ∀ t ∈ (cellsL c.toNat a.toNat).take i, decide (mvI a b c t.1 t.2 l l.length = l') = false) (fun i => l.length - i) 0 ?_
  intro s0 e
  simp -dsimp at e
  subst e
  refine ⟨?_, ?_⟩
  · simp
  rintro i ⟨hi, hno⟩
  simp -dsimp [cellsL_len, hn]
  refine ⟨fun h5 => ?_, fun h5 => ?_⟩
  · refine call_of (s_sunit) rfl (by simp) ?_
    try simp -dsimp
    try (first | exact fp_one (by decide) | refine fp_and (by decide) ?_)
    simp only [cellsL_len, hn]
    refine ⟨by omega, fun x y hxy => ?_⟩
    obtain ⟨⟨k1, k2⟩, _, _⟩ := cell_of ha.1 hc.1 hxy
    refine call_of (s_smove1 f a b c x y l hf (by omega) (by omega)) rfl (by simp) ?_
    try simp -dsimp
    try (first | exact fp_one (by decide) | refine fp_and (by decide) ?_)
    refine call_of (s_ssameP f a b c _ f a b c l' (by simp; omega)) rfl (by simp) ?_
    try simp -dsimp
    try (first | exact fp_one (by decide) | refine fp_and (by decide) ?_)
    refine ⟨fun e => ⟨by rw [cellsL_len, hn]; exact h5, fun x' y' hxy' => ?_⟩, fun e => ⟨i + 1, by rw [w64 (by omega) (by omega)]; simp, ⟨by omega, fun x' y' ht => ?_⟩, by omega⟩⟩
    · rw [hxy] at hxy'
      cases hxy'
      have : fF a b c l l' = some (x, y) := find_hit hxy (decide_eq_true e) hno
      simp [this, fR]
    · rcases mem_take_succ hxy ht with h | h
      · simpa using hno _ h
      · cases h; exact e
  · have : fF a b c l l' = none := find_miss (by rw [cellsL_len, hn]; exact h5) hno
    simp [this, fR]
/-! what is not to be searched -/
theorem s_find_bad (f a b c : Int) (l : List Int) (f' a' b' c' : Int) (l' : List Int) (hb : ¬ (okP f a b c l = true ∧ okP f' a' b' c' l' = true)) (hl : l.length ≤ 1048576) (hl' : l'.length ≤ 1048576) : Sp Try.prog 17 [aP f a b c l, aP f' a' b' c' l'] (.tu [aV 0 0, vi 1]) [] := by
  have w1 := s_isP f a b c l hl
  have w2 := s_isP f' a' b' c' l' hl'
  refine sp_of (m := no) mixed Try.func17 k17 ?_
  simp -dsimp [q]
  cases h1 : okP f a b c l
  · rw [h1] at w1
    refine call_of (w1) rfl (by simp) ?_
    try simp -dsimp
    try (first | exact fp_one (by decide) | refine fp_and (by decide) ?_)
  · rw [h1] at w1 hb
    refine call_of (w1) rfl (by simp) ?_
    try simp -dsimp
    try (first | exact fp_one (by decide) | refine fp_and (by decide) ?_)
    have h2 : okP f' a' b' c' l' = false := by simpa using hb
    rw [h2] at w2
    refine call_of (w2) rfl (by simp) ?_
    try simp -dsimp
    try (first | exact fp_one (by decide) | refine fp_and (by decide) ?_)
theorem s_sfind_bad (f a b c : Int) (l : List Int) (f' a' b' c' : Int) (l' : List Int) (hb : ¬ (okP f a b c l = true ∧ okP f' a' b' c' l' = true)) (hl : l.length ≤ 1048576) (hl' : l'.length ≤ 1048576) : Sp Try.prog 15 [aP f a b c l, aP f' a' b' c' l'] (.tu [aV 0 0, vi 1]) [] := by
  have w1 := s_sisP f a b c l hl
  have w2 := s_sisP f' a' b' c' l' hl'
  refine sp_of (m := no) mixed Try.func15 k15 ?_
  simp -dsimp [q]
  cases h1 : okP f a b c l
  · rw [h1] at w1
    refine call_of (w1) rfl (by simp) ?_
    try simp -dsimp
    try (first | exact fp_one (by decide) | refine fp_and (by decide) ?_)
  · rw [h1] at w1 hb
    refine call_of (w1) rfl (by simp) ?_
    try simp -dsimp
    try (first | exact fp_one (by decide) | refine fp_and (by decide) ?_)
    have h2 : okP f' a' b' c' l' = false := by simpa using hb
    rw [h2] at w2
    refine call_of (w2) rfl (by simp) ?_
    try simp -dsimp
    try (first | exact fp_one (by decide) | refine fp_and (by decide) ?_)
theorem s_find_far (f a b c : Int) (l : List Int) (f' a' b' c' : Int) (l' : List Int) (h1 : okP f a b c l = true) (h2 : okP f' a' b' c' l' = true) (h3 : ¬ (f = f' ∧ a = a' ∧ b = b' ∧ c = c')) (hl : l.length ≤ 1048576) (hl' : l'.length ≤ 1048576) : Sp Try.prog 17 [aP f a b c l, aP f' a' b' c' l'] (.tu [aV 0 0, vi 2]) [] := by
  have w1 := s_isP f a b c l hl
  have w2 := s_isP f' a' b' c' l' hl'
  have w3 := s_sameCells f a b c l f' a' b' c' l'
  rw [h1] at w1
  rw [h2] at w2
  rw [decide_eq_false h3] at w3
  refine sp_of (m := no) mixed Try.func17 k17 ?_
  simp -dsimp [q]
  refine call_of (w1) rfl (by simp) ?_
  try simp -dsimp
  try (first | exact fp_one (by decide) | refine fp_and (by decide) ?_)
  refine call_of (w2) rfl (by simp) ?_
  try simp -dsimp
  try (first | exact fp_one (by decide) | refine fp_and (by decide) ?_)
  refine call_of (w3) rfl (by simp) ?_
  try simp -dsimp
  try (first | exact fp_one (by decide) | refine fp_and (by decide) ?_)
theorem s_sfind_far (f a b c : Int) (l : List Int) (f' a' b' c' : Int) (l' : List Int) (h1 : okP f a b c l = true) (h2 : okP f' a' b' c' l' = true) (h3 : ¬ (f = f' ∧ a = a' ∧ b = b' ∧ c = c')) (hl : l.length ≤ 1048576) (hl' : l'.length ≤ 1048576) : Sp Try.prog 15 [aP f a b c l, aP f' a' b' c' l'] (.tu [aV 0 0, vi 2]) [] := by
  have w1 := s_sisP f a b c l hl
  have w2 := s_sisP f' a' b' c' l' hl'
  rw [h1] at w1
  rw [h2] at w2
  refine sp_of (m := no) mixed Try.func15 k15 ?_
  simp -dsimp [q, cdec_eq]
  refine call_of (w1) rfl (by simp) ?_
  try simp -dsimp
  try (first | exact fp_one (by decide) | refine fp_and (by decide) ?_)
  refine call_of (w2) rfl (by simp) ?_
  try simp -dsimp
  try (first | exact fp_one (by decide) | refine fp_and (by decide) ?_)
  exact fun e1 e2 e3 e4 => absurd ⟨e1, e2, e3, e4⟩ h3
end Go.Proofs.YtihkjljafjhniaaEv
namespace Go.Proofs.YtihkjljafjhniaaEv
open Go Go.Proofs
set_option maxRecDepth 10000
/-! lists of vectors -/
theorem s_fiV (l : List (Int × Int)) (f : Nat) (cs : List A) (p : Int × Int → Bool) (h : l.length ≤ 1048576) (hc : cs.all A.shut = true) (hf : ∀ v ∈ l, Sp Try.prog f (aV v.1 v.2 :: cs) (vb (p v)) []) : Sp Try.prog 202 [.v (vvs l), .fn f cs] (vi (if l.any p = true then l.findIdx p else -1)) [] := by
  refine sp_of (m := no) mixed Try.func202 k202 ?_
  simp -dsimp [q]
  refine awp_it (true :: true :: false :: false :: false :: false :: false :: true :: true :: []) (fun i : Nat => [(8, vi i)]) (fun i => []) (fun i => i ≤ l.length ∧ (l.take i).any p = false) (fun i => l.length - i) 0 ?_
  intro s0 e
  simp -dsimp [hc] at e
  subst e
  refine ⟨?_, ?_⟩
  · simp [hc]
  intro i hi
  simp -dsimp [hc]
  refine ⟨fun h1 => ⟨h1, fun x y ha => call_of (rd := []) (hf (x, y) (List.mem_of_getElem? ha)) (by simp [toArgs_shut hc]) (by simp) ?_⟩, fun h1 => ?_⟩
  · simp -dsimp [hc]
    have hi2 : ∀ x ∈ l.take i, p x = false := fun x hx => by
      have := List.any_eq_false.1 hi.2 x hx
      simpa using this
    obtain ⟨_, hal⟩ := List.getElem?_eq_some_iff.1 ha
    refine ⟨fun hp => ?_, fun hp => ⟨i + 1, by rw [w64 (by omega) (by omega)]; simp, ⟨by omega, fun x' y' hx => ?_⟩, by omega⟩⟩
    · rw [if_pos (List.any_eq_true.2 ⟨(x, y), List.mem_of_getElem? ha, hp⟩), (List.findIdx_eq h1).2 ⟨by rw [hal]; exact hp, fun j hj => hi2 _ (List.mem_iff_getElem.2 ⟨j, by simp; omega, by simp⟩)⟩]
    · rcases mem_take_succ ha hx with hx | hx
      · exact hi2 _ hx
      · rw [hx]; exact hp
  · have := hi.2
    rw [List.take_of_length_le h1] at this
    intro x y hx
    simpa using List.any_eq_false.1 this (x, y) hx
theorem s_hasV (l : List (Int × Int)) (f : Nat) (cs : List A) (p : Int × Int → Bool) (h : l.length ≤ 1048576) (hc : cs.all A.shut = true) (hf : ∀ v ∈ l, Sp Try.prog f (aV v.1 v.2 :: cs) (vb (p v)) []) : Sp Try.prog 155 [.v (vvs l), .fn f cs] (vb (l.any p)) [] := by
  refine sp_of (m := no) mixed Try.func155 k155 ?_
  simp -dsimp [q]
  refine call_of (rd := []) (s_fiV l f cs p h hc hf) (by simp [hc]) (by simp) ?_
  simp -dsimp
  by_cases hp : l.any p = true
  · rw [if_pos hp, hp]
    simp
  · rw [if_neg hp]
    simp only [Bool.not_eq_true] at hp
    rw [hp]
    simp
def okS (l : List (Int × Int)) : Bool := decide (l.length = 9) && l.all fun v => okV v.1 v.2
theorem s_isS1 (x y : Int) : Sp Try.prog 156 [aV x y] (vb (!okV x y)) [] := by
  refine sp_of (m := no) mixed Try.func156 k156 ?_
  simp -dsimp [q]
  refine call_of (s_isVec _ _) rfl (by simp) ?_
  try simp -dsimp
  try (first | exact fp_one (by decide) | refine fp_and (by decide) ?_)
theorem all_not_any {α : Type} (l : List α) (p : α → Bool) : (!(l.any fun v => !p v)) = l.all p := by
  induction l with
  | nil => rfl
  | cons x l ih => simp only [List.any_cons, List.all_cons, Bool.not_or, Bool.not_not, ih]
theorem s_isS (l : List (Int × Int)) (h : l.length ≤ 1048576) : Sp Try.prog 88 [.v (vvs l)] (vb (okS l)) [] := by
  refine sp_of (m := no) mixed Try.func88 k88 ?_
  simp -dsimp [q]
  refine ⟨fun e => ?_, fun e => ?_⟩
  · refine call_of (s_hasV l _ [] (fun v => !okV v.1 v.2) h rfl (fun v _ => s_isS1 v.1 v.2)) rfl (by simp) ?_
    try simp -dsimp
    try (first | exact fp_one (by decide) | refine fp_and (by decide) ?_)
    have := all_not_any l (fun v => okV v.1 v.2)
    simp only [okS, decide_eq_true (show l.length = 9 by omega), Bool.true_and]
    rw [← this]
    simp
  · simp only [okS, decide_eq_false (show ¬ l.length = 9 by omega), Bool.false_and]
theorem s_sisS (l : List (Int × Int)) (h : l.length ≤ 1048576) : Sp Try.prog 86 [.v (vvs l)] (vb (okS l)) [] := by
  refine sp_of (m := no) mixed Try.func86 k86 ?_
  simp -dsimp [q]
  refine awp_it (true :: false :: false :: true :: []) (fun i : Nat => [(3, vi i)]) (fun i => []) (fun i => i ≤ l.length ∧ ∀ v ∈ l.take i, okV v.1 v.2 = true) (fun i => l.length - i) 0 ?_
  intro s0 e
  simp -dsimp at e
  subst e
  refine ⟨?_, ?_⟩
  · simp
  rintro i ⟨hi, hok⟩
  simp -dsimp
  refine ⟨fun h1 => ⟨h1, fun x y hxy => ?_⟩, fun h1 => ?_⟩
  · refine call_of (s_sisVec x y) rfl (by simp) ?_
    try simp -dsimp
    try (first | exact fp_one (by decide) | refine fp_and (by decide) ?_)
    refine ⟨fun e => ?_, fun e => ⟨i + 1, by rw [w64 (by omega) (by omega)]; simp, ⟨by omega, fun x' y' ht => ?_⟩, by omega⟩⟩
    · simp only [okS]
      have : (l.all fun v => okV v.1 v.2) = false := List.all_eq_false.2 ⟨(x, y), List.mem_of_getElem? hxy, by simp [e]⟩
      rw [this, Bool.and_false]
    · rcases mem_take_succ hxy ht with ht | ht
      · exact hok _ ht
      · cases ht; exact e
  · rw [List.take_of_length_le h1] at hok
    have : (l.all fun v => okV v.1 v.2) = true := List.all_eq_true.2 hok
    simp only [okS, this, Bool.and_true]
    by_cases e : l.length = 9
    · rw [decide_eq_true e]; simp [e]
    · rw [decide_eq_false e]; simp; omega
theorem s_scode25 (f a b c : Int) (l : List Int) (t : Bool) (hl : l.length ≤ 1048576) : Sp Try.prog 85 [aP f a b c l, vb t] (vi (if okP f a b c l = true then if t = true then 0 else 2 else 1)) [] := by
  refine sp_of (m := no) mixed Try.func85 k85 ?_
  simp -dsimp [q]
  refine call_of (s_sisP f a b c l hl) rfl (by simp) ?_
  cases okP f a b c l <;> cases t <;> simp -dsimp
/-! the prints -/
theorem okP_mask {f a b c : Int} {l : List Int} (ink : Int) (h : okP f a b c l = true) : okP f a b c (maskL l ink) = true := by
  rw [okP_spec] at h ⊢
  refine ⟨h.1, h.2.1, by rw [maskL_len]; exact h.2.2.1, fun n hn => ?_⟩
  obtain ⟨x, _, rfl⟩ := List.mem_map.1 hn
  split <;> omega
theorem ovS_eq {a b c u v : Int} {p m : List Int} {ink : Int} (ha : 0 < a) (hc : 0 < c) (hp : (p.length : Int) = a * c) (hm : m.length = p.length) : ovS a b c u v p m ink p.length = ovI p (mvI a b c u v m m.length) ink p.length := by
  apply List.ext_getElem?
  intro j
  by_cases hj : j < p.length
  · have h1 : mv a b c (-u) (-v) j < p.length := by have := mv_lt (b := b) (u := -u) (v := -v) ha hc j; omega
    rw [setN_get (i := mv a b c (-u) (-v) j) (m := p.length) hj h1 (fun k hk => mv_iff ha hc (by omega) (by omega)) p.length (Nat.le_refl _)]
    rw [setN_get (i := j) (m := p.length) hj hj (fun k hk => Iff.rfl) p.length (Nat.le_refl _)]
    simp [h1, hj, hm, mvI, List.getElem?_range hj]
  · rw [List.getElem?_eq_none (by rw [setN_len]; omega), List.getElem?_eq_none (by rw [setN_len]; omega)]
def prL (a b c : Int) (l : List Int) (sh : List (Int × Int)) : Nat → List Int
  | 0 => List.replicate l.length 0
  | k + 1 => ovI (prL a b c l sh k) (mvI a b c (sh.getD k (0, 0)).1 (sh.getD k (0, 0)).2 (maskL l (k + 1)) l.length) (k + 1) l.length
theorem prL_len {a b c : Int} {l : List Int} {sh : List (Int × Int)} : ∀ k, (prL a b c l sh k).length = l.length
  | 0 => by simp [prL]
  | k + 1 => by rw [prL, setN_len, prL_len k]
theorem s_marked (f a b c : Int) (k : Int) (ha : 1 ≤ a ∧ a ≤ 64) (hc : 1 ≤ c ∧ c ≤ 64) : Sp Try.prog 158 [vi f, aL a b c, .v (.sl 2 []), vi k] (oP f a b c 0) [.row 0 2 (is (List.replicate (a * c).toNat 0))] := by
  refine sp_of (m := no) mixed Try.func158 k158 ?_
  have h1 := ac_pos ha.1 hc.1
  have h2 := ac_hi ha hc
  simp -dsimp [q]
  refine call_of (s_index a b c ha hc) rfl (by simp) ?_
  try simp -dsimp
  try (first | exact fp_one (by decide) | refine fp_and (by decide) ?_)
  refine ⟨by omega, by decide, ?_⟩
  refine awp_it (false :: false :: false :: true :: false :: true :: false :: false :: true :: true :: false :: false :: false :: false :: false :: false :: false :: false :: true :: true :: true :: []) (fun i : Nat => [(20, vi i)]) (fun i => []) (fun i => i = 0) (fun i => 0) 0 ?_
  intro s0 e
  simp -dsimp at e
  subst e
  refine ⟨?_, ?_⟩
  · simp
  rintro i rfl
  simp -dsimp
theorem okS_get {sh : List (Int × Int)} (h : okS sh = true) {k : Nat} {x y : Int} (hk : sh[k]? = some (x, y)) : x.natAbs ≤ 1000 ∧ y.natAbs ≤ 1000 := by
  simp only [okS, Bool.and_eq_true, List.all_eq_true] at h
  have := okV_spec.1 (h.2 _ (List.mem_of_getElem? hk))
  simp only at this
  omega
theorem s_print (f a b c : Int) (l : List Int) (sh : List (Int × Int)) (hf : okP f a b c l = true) (hs : okS sh = true) : Sp Try.prog 89 [aP f a b c l, .v (vvs sh)] (oP f a b c 0) [.row 0 2 (is (prL a b c l sh 9))] := by
  obtain ⟨_, h2, h3, _⟩ := okP_spec.1 hf
  obtain ⟨ha, hc, hb, hac⟩ := okL_spec.1 h2
  have h1 := ac_pos ha.1 hc.1
  have h9 : sh.length = 9 := by simp only [okS, Bool.and_eq_true, decide_eq_true_eq] at hs; exact hs.1
  have h0 : l ≠ [] := by rintro rfl; simp at h3; omega
  refine sp_of (m := no) mixed Try.func89 k89 ?_
  simp -dsimp [q]
  refine call_of (s_marked f a b c 0 ha hc) rfl (by simp) ?_
  try simp -dsimp
  try (first | exact fp_one (by decide) | refine fp_and (by decide) ?_)
  refine awp_it (false :: false :: true :: false :: true :: true :: false :: false :: false :: false :: false :: false :: false :: false :: true :: true :: true :: []) (fun i : Nat => [(16, vi i)]) (fun i => [(3, .row 0 2 (is (prL a b c l sh i)))]) (fun i => i ≤ 9) (fun i => 9 - i) 0 ?_
  intro s0 e
  simp -dsimp at e
  subst e
  refine ⟨?_, ?_⟩
  · simp [prL]
    omega
  intro i hi
  simp -dsimp [h9]
  refine ⟨fun h5 => ⟨by omega, fun x y hxy => ?_⟩, fun h5 => ?_⟩
  · obtain ⟨k1, k2⟩ := okS_get hs hxy
    rw [w64 (by omega) (by omega)]
    refine call_of (s_mask f a b c l (i + 1) (by omega) h0) rfl (by simp) ?_
    try simp -dsimp
    try (first | exact fp_one (by decide) | refine fp_and (by decide) ?_)
    refine call_of (s_unit) rfl (by simp) ?_
    try simp -dsimp
    try (first | exact fp_one (by decide) | refine fp_and (by decide) ?_)
    refine call_of (s_move1 f a b c x y _ (okP_mask _ hf) k1 k2) rfl (by simp) ?_
    try simp -dsimp
    try (first | exact fp_one (by decide) | refine fp_and (by decide) ?_)
    have e1 := mvI_len (a := a) (b := b) (c := c) (u := x) (v := y) (l := maskL l (i + 1)) (n := (maskL l (i + 1)).length)
    have e2 := maskL_len l (i + 1)
    refine call_of (s_overprint f a b c (prL a b c l sh i) f a b c _ (i + 1) (by rw [prL_len]; omega) (by intro e; have := prL_len (a := a) (b := b) (c := c) (l := l) (sh := sh) i; rw [e] at this; simp at this; exact h0 (List.eq_nil_of_length_eq_zero this.symm)) (by rw [e1, e2, prL_len])) rfl (by simp) ?_
    try simp -dsimp
    try (first | exact fp_one (by decide) | refine fp_and (by decide) ?_)
    refine ⟨i + 1, ⟨by rw [w64 (by omega) (by omega)]; simp, ?_⟩, by omega, by omega⟩
    have e3 : sh.getD i (0, 0) = (x, y) := by simp [hxy]
    rw [prL, e3, prL_len, e2]
  · rw [show i = 9 by omega]
theorem s_sprint (f a b c : Int) (l : List Int) (sh : List (Int × Int)) (hf : okP f a b c l = true) (hs : okS sh = true) : Sp Try.prog 87 [aP f a b c l, .v (vvs sh)] (oP f a b c 0) [.row 0 2 (is (prL a b c l sh 9))] := by
  obtain ⟨_, h2, h3, _⟩ := okP_spec.1 hf
  obtain ⟨ha, hc, hb, hac⟩ := okL_spec.1 h2
  have h1 := ac_pos ha.1 hc.1
  have h9 : sh.length = 9 := by simp only [okS, Bool.and_eq_true, decide_eq_true_eq] at hs; exact hs.1
  have h0 : l ≠ [] := by rintro rfl; simp at h3; omega
  refine sp_of (m := no) mixed Try.func87 k87 ?_
  simp -dsimp [q]
  refine ⟨by omega, by decide, ?_⟩
  refine awp_it (false :: true :: true :: false :: true :: true :: true :: []) (fun i : Nat => [(6, vi (i + 1))]) (fun i => [(3, .row 0 2 (is (prL a b c l sh i)))]) (fun i => i ≤ 9) (fun i => 9 - i) 0 ?_
  intro s0 e
  simp -dsimp at e
  subst e
  refine ⟨?_, ?_⟩
  · simp [prL]
  intro i hi
  simp -dsimp [h9]
  refine ⟨fun h5 => ?_, fun h5 => ?_⟩
  · refine call_of (s_smask f a b c l (i + 1) (by omega)) rfl (by simp) ?_
    try simp -dsimp
    try (first | exact fp_one (by decide) | refine fp_and (by decide) ?_)
    rw [w64 (n := (i : Int)) (by omega) (by omega)]
    refine ⟨⟨by omega, by omega⟩, fun x y hxy => ?_⟩
    simp only [Int.toNat_natCast] at hxy
    obtain ⟨k1, k2⟩ := okS_get hs hxy
    have hw := s_over f a b c (prL a b c l sh i) f a b c (maskL l (i + 1)) (i + 1) x y h2 (by rw [prL_len]; exact h3) (by rw [maskL_len, prL_len]) k1 k2
    rw [ovS_eq (by omega) (by omega) (by rw [prL_len]; exact h3) (by rw [maskL_len, prL_len])] at hw
    refine call_of (hw) rfl (by simp) ?_
    try simp -dsimp
    try (first | exact fp_one (by decide) | refine fp_and (by decide) ?_)
    refine ⟨i + 1, ⟨by rw [w64 (by omega) (by omega)]; simp, ?_⟩, by omega, by omega⟩
    have e3 : sh.getD i (0, 0) = (x, y) := by simp [hxy]
    rw [prL, e3, prL_len, maskL_len]
  · rw [show i = 9 by omega]
/-! all of it -/
abbrev zP : A := .ag [vi 0, vi 0, vi 0, vi 0, .nil 0]
theorem s_pS (f a b c : Int) (l : List Int) (sh : List (Int × Int)) (hf : okP f a b c l = true) (hs : okS sh = true) (hl : l.length ≤ 1048576) (hsl : sh.length ≤ 1048576) : Sp Try.prog 26 [aP f a b c l, .v (vvs sh)] (.tu [oP f a b c 0, vi 0]) [.row 0 2 (is (prL a b c l sh 9))] := by
  have w1 := s_isP f a b c l hl
  have w2 := s_isS sh hsl
  rw [hf] at w1
  rw [hs] at w2
  refine sp_of (m := no) mixed Try.func26 k26 ?_
  simp -dsimp [q]
  refine call_of (w1) rfl (by simp) ?_
  try simp -dsimp
  try (first | exact fp_one (by decide) | refine fp_and (by decide) ?_)
  refine call_of (w2) rfl (by simp) ?_
  try simp -dsimp
  try (first | exact fp_one (by decide) | refine fp_and (by decide) ?_)
  refine call_of (s_print f a b c l sh hf hs) rfl (by simp) ?_
  try simp -dsimp
  try (first | exact fp_one (by decide) | refine fp_and (by decide) ?_)
theorem s_pS_bad (f a b c : Int) (l : List Int) (sh : List (Int × Int)) (hf : okP f a b c l = false) (hl : l.length ≤ 1048576) : Sp Try.prog 26 [aP f a b c l, .v (vvs sh)] (.tu [zP, vi 1]) [] := by
  have w1 := s_isP f a b c l hl
  rw [hf] at w1
  refine sp_of (m := no) mixed Try.func26 k26 ?_
  simp -dsimp [q]
  refine call_of (w1) rfl (by simp) ?_
  try simp -dsimp
  try (first | exact fp_one (by decide) | refine fp_and (by decide) ?_)
theorem s_pS_far (f a b c : Int) (l : List Int) (sh : List (Int × Int)) (hf : okP f a b c l = true) (hs : okS sh = false) (hl : l.length ≤ 1048576) (hsl : sh.length ≤ 1048576) : Sp Try.prog 26 [aP f a b c l, .v (vvs sh)] (.tu [zP, vi 2]) [] := by
  have w1 := s_isP f a b c l hl
  have w2 := s_isS sh hsl
  rw [hf] at w1
  rw [hs] at w2
  refine sp_of (m := no) mixed Try.func26 k26 ?_
  simp -dsimp [q]
  refine call_of (w1) rfl (by simp) ?_
  try simp -dsimp
  try (first | exact fp_one (by decide) | refine fp_and (by decide) ?_)
  refine call_of (w2) rfl (by simp) ?_
  try simp -dsimp
  try (first | exact fp_one (by decide) | refine fp_and (by decide) ?_)
theorem s_spS (f a b c : Int) (l : List Int) (sh : List (Int × Int)) (hf : okP f a b c l = true) (hs : okS sh = true) (hl : l.length ≤ 1048576) (hsl : sh.length ≤ 1048576) : Sp Try.prog 25 [aP f a b c l, .v (vvs sh)] (.tu [oP f a b c 0, vi 0]) [.row 0 2 (is (prL a b c l sh 9))] := by
  have w1 := s_scode25 f a b c l true hl
  have w2 := s_sisS sh hsl
  rw [hf] at w1
  rw [hs] at w2
  refine sp_of (m := no) mixed Try.func25 k25 ?_
  simp -dsimp [q]
  refine call_of (w2) rfl (by simp) ?_
  try simp -dsimp
  try (first | exact fp_one (by decide) | refine fp_and (by decide) ?_)
  refine call_of (w1) rfl (by simp) ?_
  try simp -dsimp
  try (first | exact fp_one (by decide) | refine fp_and (by decide) ?_)
  refine call_of (s_sprint f a b c l sh hf hs) rfl (by simp) ?_
  try simp -dsimp
  try (first | exact fp_one (by decide) | refine fp_and (by decide) ?_)
theorem s_spS_bad (f a b c : Int) (l : List Int) (sh : List (Int × Int)) (hb : ¬ (okP f a b c l = true ∧ okS sh = true)) (hl : l.length ≤ 1048576) (hsl : sh.length ≤ 1048576) : Sp Try.prog 25 [aP f a b c l, .v (vvs sh)] (.tu [zP, vi (if okP f a b c l = true then 2 else 1)]) [] := by
  have w1 := s_scode25 f a b c l (okS sh) hl
  have w2 := s_sisS sh hsl
  generalize okP f a b c l = p at *
  generalize okS sh = s at *
  refine sp_of (m := no) mixed Try.func25 k25 ?_
  simp -dsimp [q]
  refine call_of (w2) rfl (by simp) ?_
  try simp -dsimp
  try (first | exact fp_one (by decide) | refine fp_and (by decide) ?_)
  refine call_of (w1) rfl (by simp) ?_
  try simp -dsimp
  try (first | exact fp_one (by decide) | refine fp_and (by decide) ?_)
  cases p <;> cases s <;> simp at hb ⊢
def gapL (p r : List Int) : Nat → Int
  | 0 => 0
  | n + 1 => gapL p r n + if r.getD n 0 = 0 ∧ p.getD n 0 ≠ 0 then 1 else 0
theorem gapL_bd (p r : List Int) : ∀ n, 0 ≤ gapL p r n ∧ gapL p r n ≤ n
  | 0 => by simp [gapL]
  | n + 1 => by have := gapL_bd p r n; simp only [gapL]; split <;> omega
theorem s_gaps (f a b c : Int) (l : List Int) (sh : List (Int × Int)) (hf : okP f a b c l = true) (hs : okS sh = true) (hl : l.length ≤ 1048576) (hsl : sh.length ≤ 1048576) : Sp Try.prog 23 [aP f a b c l, .v (vvs sh)] (.tu [vi (gapL l (prL a b c l sh 9) l.length), vi 0]) [] := by
  refine sp_of (m := no) mixed Try.func23 k23 ?_
  have e := prL_len (a := a) (b := b) (c := c) (l := l) (sh := sh) 9
  have w := s_pS f a b c l sh hf hs hl hsl
  generalize prL a b c l sh 9 = r at *
  simp -dsimp [q]
  refine call_of (w) rfl (by simp) ?_
  try simp -dsimp
  try (first | exact fp_one (by decide) | refine fp_and (by decide) ?_)
  refine awp_it (false :: false :: true :: false :: false :: false :: false :: true :: true :: false :: false :: false :: false :: false :: false :: false :: false :: false :: true :: true :: true :: []) (fun i : Nat => [(8, vi (gapL l r i)), (20, vi i)]) (fun i => []) (fun i => i ≤ l.length) (fun i => l.length - i) 0 ?_
  intro s0 e
  simp -dsimp at e
  subst e
  refine ⟨?_, ?_⟩
  · simp [gapL]
  intro i hi
  simp -dsimp [e]
  have hb := gapL_bd l r i
  refine ⟨fun h1 => ⟨by omega, fun z hz => ?_⟩, fun h1 => ?_⟩
  · refine ⟨fun e0 => ⟨h1, fun y hy => ⟨fun e1 => ⟨i + 1, ⟨?_, by rw [w64 (by omega) (by omega)]; simp⟩, by omega, by omega⟩, fun e1 => ⟨i + 1, ⟨?_, by rw [w64 (by omega) (by omega)]; simp⟩, by omega, by omega⟩⟩⟩, fun e0 => ⟨i + 1, ⟨?_, by rw [w64 (by omega) (by omega)]; simp⟩, by omega, by omega⟩⟩
    · rw [w64 (by omega) (by omega)]
      simp [gapL, hz, hy, e0, e1]
    · simp [gapL, hz, hy, e0, e1]
    · simp [gapL, hz, e0]
  · rw [show i = l.length by omega]
theorem s_gaps_bad (f a b c : Int) (l : List Int) (sh : List (Int × Int)) (k : Int) (w : Sp Try.prog 26 [aP f a b c l, .v (vvs sh)] (.tu [zP, vi k]) []) : Sp Try.prog 23 [aP f a b c l, .v (vvs sh)] (.tu [vi 0, vi k]) [] := by
  refine sp_of (m := no) mixed Try.func23 k23 ?_
  simp -dsimp [q]
  refine call_of (w) rfl (by simp) ?_
  try simp -dsimp
  try (first | exact fp_one (by decide) | refine fp_and (by decide) ?_)
  refine awp_it (false :: false :: true :: false :: false :: false :: false :: true :: true :: false :: false :: false :: false :: false :: false :: false :: false :: false :: true :: true :: true :: []) (fun i : Nat => []) (fun i => []) (fun i => i = 0) (fun i => 0) 0 ?_
  intro s0 e
  simp -dsimp at e
  subst e
  refine ⟨?_, ?_⟩
  · simp
  rintro i rfl
  simp -dsimp
theorem s_sgaps (f a b c : Int) (l : List Int) (sh : List (Int × Int)) (hf : okP f a b c l = true) (hs : okS sh = true) (hl : l.length ≤ 1048576) (hsl : sh.length ≤ 1048576) : Sp Try.prog 21 [aP f a b c l, .v (vvs sh)] (.tu [vi (gapL l (prL a b c l sh 9) l.length), vi 0]) [] := by
  have hpos := (okP_spec.1 hf).2.2.2
  have w1 := s_scode25 f a b c l true hl
  have w2 := s_sisS sh hsl
  have w3 := s_sprint f a b c l sh hf hs
  rw [hf] at w1
  rw [hs] at w2
  have e := prL_len (a := a) (b := b) (c := c) (l := l) (sh := sh) 9
  generalize prL a b c l sh 9 = r at *
  refine sp_of (m := no) mixed Try.func21 k21 ?_
  simp -dsimp [q]
  refine call_of (w2) rfl (by simp) ?_
  try simp -dsimp
  try (first | exact fp_one (by decide) | refine fp_and (by decide) ?_)
  refine call_of (w1) rfl (by simp) ?_
  try simp -dsimp
  try (first | exact fp_one (by decide) | refine fp_and (by decide) ?_)
  refine call_of (w3) rfl (by simp) ?_
  try simp -dsimp
  try (first | exact fp_one (by decide) | refine fp_and (by decide) ?_)
  refine awp_it (false :: false :: true :: false :: false :: false :: false :: true :: true :: true :: []) (fun i : Nat => [(8, vi (gapL l r i)), (9, vi i)]) (fun i => []) (fun i => i ≤ l.length) (fun i => l.length - i) 0 ?_
  intro s0 e
  simp -dsimp at e
  subst e
  refine ⟨?_, ?_⟩
  · simp [gapL]
  intro i hi
  simp -dsimp [e]
  have hb := gapL_bd l r i
  refine ⟨fun h1 => ⟨h1, fun y hy => ?_⟩, fun h1 => ?_⟩
  · have hy0 := hpos y (List.mem_of_getElem? hy)
    refine ⟨fun e1 => ⟨h1, fun z hz => ⟨fun e0 => ⟨i + 1, ⟨?_, by rw [w64 (by omega) (by omega)]; simp⟩, by omega, by omega⟩, fun e0 => ⟨i + 1, ⟨?_, by rw [w64 (by omega) (by omega)]; simp⟩, by omega, by omega⟩⟩⟩, fun e1 => ⟨i + 1, ⟨?_, by rw [w64 (by omega) (by omega)]; simp⟩, by omega, by omega⟩⟩
    · rw [w64 (by omega) (by omega)]
      simp [gapL, hz, hy, e0, show ¬ y = 0 by omega]
    · simp [gapL, hz, e0]
    · simp [gapL, hy, show y = 0 by omega]
  · rw [show i = l.length by omega]
theorem s_sgaps_bad (f a b c : Int) (l : List Int) (sh : List (Int × Int)) (hb : ¬ (okP f a b c l = true ∧ okS sh = true)) (hl : l.length ≤ 1048576) (hsl : sh.length ≤ 1048576) : Sp Try.prog 21 [aP f a b c l, .v (vvs sh)] (.tu [vi 0, vi (if okP f a b c l = true then 2 else 1)]) [] := by
  have w1 := s_scode25 f a b c l (okS sh) hl
  have w2 := s_sisS sh hsl
  generalize okP f a b c l = p at *
  generalize okS sh = s at *
  refine sp_of (m := no) mixed Try.func21 k21 ?_
  simp -dsimp [q]
  refine call_of (w2) rfl (by simp) ?_
  try simp -dsimp
  try (first | exact fp_one (by decide) | refine fp_and (by decide) ?_)
  refine call_of (w1) rfl (by simp) ?_
  try simp -dsimp
  try (first | exact fp_one (by decide) | refine fp_and (by decide) ?_)
  cases p <;> cases s <;> simp at hb ⊢
end Go.Proofs.YtihkjljafjhniaaEv
namespace Go.Proofs.YtihkjljafjhniaaEv
open Go Go.Proofs
set_option maxRecDepth 10000
theorem s_szP (f a b c : Int) (l : List Int) (n : Int) (hc : l.length ≤ maxLen) (hn : 0 ≤ n ∧ n ≤ 1048576) : Sp Try.prog 14 [aP f a b c l, vi n] (vi (if n < l.length then -1 else n - l.length)) [] := by
  refine sp_of (m := no) mixed Try.func14 k14 ?_
  simp -dsimp [q]
  refine call_of (s_sz l n hc hn) rfl (by simp) ?_
  try simp -dsimp
  try (first | exact fp_one (by decide) | refine fp_and (by decide) ?_)
  split <;> omega
theorem s_toL (a b c : Int) : Sp Try.prog 33 [aL a b c] (aL a b c) [] := by
  refine sp_of (m := no) mixed Try.func33 k33 ?_
  simp -dsimp [q]
theorem s_toP (f a b c : Int) (l : List Int) (hc : l.length ≤ 1048576) : Sp Try.prog 16 [aP f a b c l] (oP f a b c 0) [.row 0 2 (is l)] := by
  refine sp_of (m := no) mixed Try.func16 k16 ?_
  simp -dsimp [q]
  refine call_of (s_toL a b c) rfl (by simp) ?_
  try simp -dsimp
  try (first | exact fp_one (by decide) | refine fp_and (by decide) ?_)
  refine call_of (s_to l hc) rfl (by simp) ?_
  try simp -dsimp
  try (first | exact fp_one (by decide) | refine fp_and (by decide) ?_)
theorem s_eqL (a b c a' b' c' : Int) : Sp Try.prog 83 [aL a b c, aL a' b' c'] (vb (decide (a = a' ∧ b = b' ∧ c = c'))) [] := by
  refine sp_of (m := no) mixed Try.func83 k83 ?_
  simp -dsimp [q]
  refine ⟨fun h e => absurd e h, fun h => ⟨fun h2 _ e => absurd e h2, fun h2 => ⟨fun h3 _ _ => h3, fun h3 => ⟨h, h2, h3⟩⟩⟩⟩
theorem s_eqP (f a b c : Int) (l : List Int) (f' a' b' c' : Int) (l' : List Int) (hl : l.length ≤ 1048576) : Sp Try.prog 19 [aP f a b c l, aP f' a' b' c' l'] (vb (decide (f = f' ∧ (a = a' ∧ b = b' ∧ c = c') ∧ l = l'))) [] := by
  refine sp_of (m := no) mixed Try.func19 k19 ?_
  have w1 := s_eqL a b c a' b' c'
  generalize hp : decide (a = a' ∧ b = b' ∧ c = c') = p at w1
  simp -dsimp [q]
  refine ⟨fun h e => absurd e h, fun h => ?_⟩
  refine call_of (w1) rfl (by simp) ?_
  try simp -dsimp
  try (first | exact fp_one (by decide) | refine fp_and (by decide) ?_)
  cases p
  · simp -dsimp
    have := of_decide_eq_false hp
    intro _ e1 e2 e3
    exact absurd ⟨e1, e2, e3⟩ this
  · simp -dsimp
    have := of_decide_eq_true hp
    refine call_of (s_eq l l' hl) rfl (by simp) ?_
    try simp -dsimp
    try (first | exact fp_one (by decide) | refine fp_and (by decide) ?_)
    exact ⟨fun h3 _ _ _ _ => h3, fun h3 => ⟨h, this, h3⟩⟩
theorem s_eqV (x y x' y' : Int) : Sp Try.prog 18 [aV x y, aV x' y'] (vb (decide (x = x' ∧ y = y'))) [] := by
  refine sp_of (m := no) mixed Try.func18 k18 ?_
  simp -dsimp [q]
  refine ⟨fun h e => absurd e h, fun h => ⟨fun h2 _ => h2, fun h2 => ⟨h, h2⟩⟩⟩
abbrev vvs' (l : List (Int × Int)) : V := .sl 2 (vs l)
theorem s_toV (x y : Int) : Sp Try.prog 41 [aV x y] (aV x y) [] := by
  refine sp_of (m := no) mixed Try.func41 k41 ?_
  simp -dsimp [q]
theorem s_szVS (l : List (Int × Int)) (n : Int) (h : l.length ≤ maxLen) (hn : 0 ≤ n ∧ n ≤ 1048576) : Sp Try.prog 20 [.v (vvs' l), vi n] (vi (if n < l.length then -1 else n - l.length)) [] := by
  refine sp_of (m := no) mixed Try.func20 k20 ?_
  rw [mLen] at h
  simp -dsimp [q]
  rw [w64 (by omega) (by omega)]
  constructor
  · intro h1 h2; omega
  · intro h1; rw [if_neg (by omega)]
theorem s_toVS (l : List (Int × Int)) (h : l.length ≤ 1048576) : Sp Try.prog 22 [.v (vvs' l)] (.sli 0) [.row 2 29 (vs l)] := by
  refine sp_of (m := no) mixed Try.func22 k22 ?_
  simp -dsimp [q]
  refine ⟨⟨by omega, by omega⟩, ?_⟩
  refine awp_it (true :: false :: false :: true :: true :: []) (fun i : Nat => [(4, vi i)]) (fun i => [(0, .row 2 29 (vs (l.take i ++ List.replicate (l.length - i) (0, 0))))]) (fun i => i ≤ l.length) (fun i => l.length - i) 0 ?_
  intro s0 e
  simp -dsimp at e
  subst e
  refine ⟨?_, ?_⟩
  · simp
  intro i hi
  simp -dsimp
  refine ⟨fun h1 => ⟨h1, fun x y ha => ?_⟩, fun h1 => ?_⟩
  · refine call_of (s_toV x y) rfl (by simp) ?_
    try simp -dsimp
    try (first | exact fp_one (by decide) | refine fp_and (by decide) ?_)
    refine ⟨by omega, by omega, i + 1, ⟨by rw [w64 (by omega) (by omega)]; simp, ?_⟩, by omega, by omega⟩
    exact fill_set ha
  · have : i = l.length := by omega
    subst this
    simp
theorem s_eqVS (xs ys : List (Int × Int)) (hx : xs.length ≤ 1048576) : Sp Try.prog 24 [.v (vvs' xs), .v (vvs' ys)] (vb (decide (xs = ys))) [] := by
  refine sp_of (m := no) mixed Try.func24 k24 ?_
  simp -dsimp [q]
  refine ⟨fun h e => h (by rw [e]), fun hl => ?_⟩
  refine awp_it (true :: true :: false :: false :: false :: true :: []) (fun i : Nat => [(5, vi i)]) (fun i => []) (fun i => i ≤ xs.length ∧ xs.take i = ys.take i) (fun i => xs.length - i) 0 ?_
  intro s0 e
  simp -dsimp at e
  subst e
  refine ⟨?_, ?_⟩
  · simp
  intro i hi
  simp -dsimp
  obtain ⟨hi, ht⟩ := hi
  refine ⟨fun h1 => ⟨h1, fun a a' ha => ⟨by omega, fun b b' hb => ?_⟩⟩, fun h1 => ?_⟩
  · refine call_of (s_eqV a a' b b') rfl (by simp) ?_
    try simp -dsimp
    try (first | exact fp_one (by decide) | refine fp_and (by decide) ?_)
    refine ⟨fun hn e => ?_, fun e e' => ⟨i + 1, by rw [w64 (by omega) (by omega)]; simp, ⟨by omega, ?_⟩, by omega⟩⟩
    · subst e
      rw [ha] at hb
      cases hb
      rcases hn with h | h <;> exact h rfl
    · subst e e'
      rw [List.take_add_one, List.take_add_one, ht, ha, hb]
  · have h2 : i = xs.length := by omega
    subst h2
    rw [List.take_length, List.take_of_length_le (by omega)] at ht
    exact ht
def mkV (k : Int) (n : Nat) : List (Int × Int) := (List.range n).map fun i : Nat => (k + 2 * i, k + 2 * i + 1)
theorem s_markVS (l : List (Int × Int)) (k : Int) (t : Nat) (hx : l.length ≤ 1048576) (hk : 0 ≤ k ∧ k ≤ 1000000000) : SpG Try.prog 28 [.sli 0, vi k] [.row 2 t (vs l)] (vi (k + 2 * l.length)) [.row 2 t (vs (mkV k l.length))] := by
  refine sg_of (m := no) mixed Try.func28 k28 ?_
  simp -dsimp [q]
  refine awp_it (true :: true :: false :: false :: false :: true :: []) (fun i : Nat => [(1, vi (k + 2 * i)), (5, vi i)]) (fun i => [(0, .row 2 t (vs (mkV k i ++ l.drop i)))]) (fun i => i ≤ l.length) (fun i => l.length - i) 0 ?_
  intro s0 e
  simp -dsimp at e
  subst e
  refine ⟨?_, ?_⟩
  · simp [mkV]
  intro i hi
  simp -dsimp [mkV]
  have hlen : ((List.range i).map fun i : Nat => (k + 2 * (i : Int), k + 2 * (i : Int) + 1)).length = i := by simp
  have hsnoc : ((List.range (i + 1)).map fun i : Nat => (k + 2 * (i : Int), k + 2 * (i : Int) + 1)) = ((List.range i).map fun i : Nat => (k + 2 * (i : Int), k + 2 * (i : Int) + 1)) ++ [(k + 2 * (i : Int), k + 2 * (i : Int) + 1)] := by rw [List.range_succ, List.map_append]; rfl
  generalize hM : ((List.range i).map fun i : Nat => (k + 2 * (i : Int), k + 2 * (i : Int) + 1)) = M at *
  refine ⟨fun h1 => ?_, fun h1 => ?_⟩
  · have hd := List.drop_eq_getElem_cons (show i < l.length by omega)
    rw [hd]
    refine ⟨h1, by omega, fun a b hab => ⟨h1, by omega, fun a' b' hab' => ⟨i + 1, ⟨⟨?_, by rw [w64 (by omega) (by omega)]; simp⟩, ?_⟩, by omega, by omega⟩⟩⟩
    · rw [w64 (n := k + 2 * (i : Int) + 1) (by omega) (by omega), w64 (by omega) (by omega)]; omega
    · rw [List.set_cons_zero, List.getElem?_append_right (by omega), hlen] at hab'
      simp only [Nat.sub_self, List.getElem?_cons_zero, Option.some.injEq, Prod.mk.injEq] at hab'
      rw [w64 (by omega) (by omega), ← hab'.1, hsnoc]
      simp
      rw [hd, List.set_cons_zero]
  · have : i = l.length := by omega
    subst this
    simp [← hM]
/-! marks on patterns -/
theorem s_markP (f a b c : Int) (l : List Int) (k : Int) (t : Nat) (hc : l.length ≤ 1048576) (hk : 0 ≤ k ∧ k ≤ 1000000000) : SpG Try.prog 27 [oP f a b c 0, vi k] [.row 0 t (is l)] (vi (k + l.length)) [.row 0 t (is ((List.range l.length).map fun i : Nat => k + i))] := by
  refine sg_of (m := fun f => f == 90) mixed Try.func27 k27 ?_
  simp -dsimp [q]
  refine callM_of rfl (s_mark l k hc hk t) (by simp) ?_
  try simp -dsimp
  try (first | exact fp_one (by decide) | refine fp_and (by decide) ?_)
theorem s_heldP (f a b c : Int) (l : List Int) (k : Int) (t : Nat) (hc : l.length ≤ 1048576) (hk : 0 ≤ k ∧ k ≤ 1000000000) (hh : l = (List.range l.length).map fun i : Nat => k + i) : SpG Try.prog 29 [oP f a b c 0, vi k] [.row 0 t (is l)] (vi (k + l.length)) [.row 0 t (is l)] := by
  refine sg_of (m := fun f => f == 91) mixed Try.func29 k29 ?_
  simp -dsimp [q]
  refine callM_of rfl (s_held l k hc hk hh t) (by simp) ?_
  try simp -dsimp
  try (first | exact fp_one (by decide) | refine fp_and (by decide) ?_)
  intro hneg
  omega
theorem s_mark0 (k : Int) : SpG Try.prog 90 [.nil 0, vi k] [] (vi k) [] := by
  refine sg_of (m := no) mixed Try.func90 k90 ?_
  simp -dsimp [q]
  refine awp_it (true :: true :: false :: false :: false :: true :: []) (fun i : Nat => [(5, vi i)]) (fun i => []) (fun i => i = 0) (fun i => 0) 0 ?_
  intro s0 e
  simp -dsimp at e
  subst e
  refine ⟨?_, ?_⟩
  · simp
  rintro i rfl
  simp -dsimp
theorem s_held0 (k : Int) : SpG Try.prog 91 [.nil 0, vi k] [] (vi k) [] := by
  refine sg_of (m := no) mixed Try.func91 k91 ?_
  simp -dsimp [q]
  refine awp_it (true :: true :: false :: false :: false :: true :: []) (fun i : Nat => [(5, vi i)]) (fun i => []) (fun i => i = 0) (fun i => 0) 0 ?_
  intro s0 e
  simp -dsimp at e
  subst e
  refine ⟨?_, ?_⟩
  · simp
  rintro i rfl
  simp -dsimp
abbrev zP' : A := .ag [vi 0, vi 0, vi 0, vi 0, .nil 0]
theorem s_markP0 (k : Int) : SpG Try.prog 27 [zP', vi k] [] (vi k) [] := by
  refine sg_of (m := fun f => f == 90) mixed Try.func27 k27 ?_
  simp -dsimp [q]
  refine callM_of rfl (s_mark0 k) (by simp) ?_
  try simp -dsimp
  try (first | exact fp_one (by decide) | refine fp_and (by decide) ?_)
theorem s_heldP0 (k : Int) (hk : 0 ≤ k) : SpG Try.prog 29 [zP', vi k] [] (vi k) [] := by
  refine sg_of (m := fun f => f == 91) mixed Try.func29 k29 ?_
  simp -dsimp [q]
  refine callM_of rfl (s_held0 k) (by simp) ?_
  try simp -dsimp
  try (first | exact fp_one (by decide) | refine fp_and (by decide) ?_)
  intro hneg
  omega
end Go.Proofs.YtihkjljafjhniaaEv
namespace Go.Proofs.YtihkjljafjhniaaEv
open Go Go.Proofs
set_option maxRecDepth 10000
set_option maxHeartbeats 2000000
theorem pS_both (f a b c : Int) (l : List Int) (sh : List (Int × Int)) (hl : l.length ≤ 1048576) (hsl : sh.length ≤ 1048576) :
    (∃ r : List Int, r.length = l.length ∧ Sp Try.prog 25 [aP f a b c l, .v (vvs' sh)] (.tu [oP f a b c 0, vi 0]) [.row 0 2 (is r)] ∧ Sp Try.prog 26 [aP f a b c l, .v (vvs' sh)] (.tu [oP f a b c 0, vi 0]) [.row 0 2 (is r)]) ∨
    ∃ k, Sp Try.prog 25 [aP f a b c l, .v (vvs' sh)] (.tu [zP', vi k]) [] ∧ Sp Try.prog 26 [aP f a b c l, .v (vvs' sh)] (.tu [zP', vi k]) [] := by
  by_cases h1 : okP f a b c l = true
  case neg =>
    simp only [Bool.not_eq_true] at h1
    have h2 := s_spS_bad f a b c l sh (by rw [h1]; simp) hl hsl
    rw [h1] at h2
    exact .inr ⟨1, h2, s_pS_bad f a b c l sh h1 hl⟩
  by_cases h2 : okS sh = true
  case neg =>
    simp only [Bool.not_eq_true] at h2
    have h3 := s_spS_bad f a b c l sh (by rw [h2]; simp) hl hsl
    rw [h1] at h3
    exact .inr ⟨2, h3, s_pS_far f a b c l sh h1 h2 hl hsl⟩
  exact .inl ⟨_, prL_len 9, s_spS f a b c l sh h1 h2 hl hsl, s_pS f a b c l sh h1 h2 hl hsl⟩
theorem law_FnExactPrintShifted (a0_0 : Int) (a0_1_0 : Int) (a0_1_1 : Int) (a0_1_2 : Int) (a0_2 : List (Int)) (a1 : List ((Int × Int))) (wf0 : ((Lit.int .i64 a0_0).wf = true ∧ ((Lit.int .i64 a0_1_0).wf = true ∧ (Lit.int .i64 a0_1_1).wf = true ∧ (Lit.int .i64 a0_1_2).wf = true) ∧ (a0_2.length ≤ maxLen ∧ ∀ y ∈ a0_2, (Lit.int .i64 y).wf = true))) (wf1 : (a1.length ≤ maxLen ∧ ∀ y ∈ a1, ((Lit.int .i64 y.1).wf = true ∧ (Lit.int .i64 y.2).wf = true))) : Sp Try.prog 5 [.v (.ag [.int .i64 a0_0, .int .i64 a0_1_0, .int .i64 a0_1_1, .int .i64 a0_1_2, .sl 0 (a0_2.map fun y => .int .i64 y)]), .v (.sl 2 (a1.map fun y => .ag [.int .i64 y.1, .int .i64 y.2]))] (.v (.bool true)) [] := by
  have hl := wf0.2.2.1
  have hl' := wf1.1
  clear wf0 wf1
  generalize a0_0 = f, a0_1_0 = a, a0_1_1 = b, a0_1_2 = c, a0_2 = l, a1 = sh at *
  show Sp Try.prog 5 [aP f a b c l, .v (vvs' sh)] (vb true) []
  refine sp_of (m := fun f => f == 27 || f == 29 || f == 28) mixed Try.func5 k5 ?_
  simp -dsimp [q]
  refine call_of (s_szP f a b c l 1048576 hl (by omega)) rfl (by simp) ?_
  try simp -dsimp
  try (first | exact fp_one (by decide) | refine fp_and (by decide) ?_)
  by_cases hc : l.length ≤ 1048576
  case neg =>
    rw [if_pos (by omega)]
    simp
  rw [if_neg (by omega)]
  intro _
  refine call_of (s_szVS sh (1048576 - l.length) hl' (by omega)) rfl (by simp) ?_
  try simp -dsimp
  try (first | exact fp_one (by decide) | refine fp_and (by decide) ?_)
  by_cases hc' : (1048576 - l.length : Int) < sh.length
  case pos =>
    rw [if_pos hc']
    simp
  rw [if_neg hc']
  intro _
  have hc2 : sh.length ≤ 1048576 := by omega
  rcases pS_both f a b c l sh hc hc2 with ⟨r, hr, hs, hi⟩ | ⟨k, hs, hi⟩
  · have hr1 : r.length ≤ 1048576 := by omega
    repeat ((first | refine call_of (s_toP _ _ _ _ _ hc) rfl (by simp) ?_ | refine call_of (s_toVS _ hc2) rfl (by simp) ?_ | refine call_of (hs) rfl (by simp) ?_ | refine call_of (hi) rfl (by simp) ?_ | refine call_of (s_eqP _ _ _ _ _ _ _ _ _ _ hc) rfl (by simp) ?_ | refine call_of (s_eqP _ _ _ _ _ _ _ _ _ _ hr1) rfl (by simp) ?_ | refine call_of (s_eqVS _ _ hc2) rfl (by simp) ?_ | refine callM_of rfl (s_markP f a b c l 1 2 hc (by omega)) (by simp) ?_ | refine callM_of rfl (s_markVS sh (1 + l.length) _ hc2 (by omega)) (by simp) ?_ | refine callM_of rfl (s_markP f a b c r 1 2 hr1 (by omega)) (by simp) ?_ | refine callM_of rfl (s_heldP f a b c ((List.range r.length).map fun i : Nat => 1 + (i : Int)) 1 2 (by simpa using hr1) (by omega) (by simp)) (by simp) ?_ | exact fp_one (by decide) | refine fp_and (by decide) ?_ | refine br_l (by omega) (by omega) ?_ | refine br_r (by omega) (by omega) ?_ | refine br_p (by omega) (by omega) ?_ | refine br_q (by omega) (by omega) ?_); try simp -dsimp)
    omega
  · repeat ((first | refine call_of (s_toP _ _ _ _ _ hc) rfl (by simp) ?_ | refine call_of (s_toVS _ hc2) rfl (by simp) ?_ | refine call_of (hs) rfl (by simp) ?_ | refine call_of (hi) rfl (by simp) ?_ | refine call_of (s_eqP _ _ _ _ _ _ _ _ _ _ hc) rfl (by simp) ?_ | refine call_of (s_eqP _ _ _ _ [] _ _ _ _ [] (by simp)) rfl (by simp) ?_ | refine call_of (s_eqVS _ _ hc2) rfl (by simp) ?_ | refine callM_of rfl (s_markP f a b c l 1 2 hc (by omega)) (by simp) ?_ | refine callM_of rfl (s_markVS sh (1 + l.length) _ hc2 (by omega)) (by simp) ?_ | refine callM_of rfl (s_markP0 1) (by simp) ?_ | refine callM_of rfl (s_heldP0 1 (by omega)) (by simp) ?_ | exact fp_one (by decide) | refine fp_and (by decide) ?_ | refine br_l (by omega) (by omega) ?_ | refine br_r (by omega) (by omega) ?_ | refine br_p (by omega) (by omega) ?_ | refine br_q (by omega) (by omega) ?_); try simp -dsimp)
end Go.Proofs.YtihkjljafjhniaaEv
namespace Go.Proofs.YtihkjljafjhniaaEv
open Go Go.ChangeShapes Go.WideShapes Go.RowKit Go.Deep

abbrev below (W : World) : Nat → Prop := fun b => b < W.heap.size
def OpC {α : Type} (P : Program) (t : TypeId) (encs : α → List V) (wf : α → Prop) : Prop :=
  ∀ (H : Type) (enc : TypeId × Value → H) (W : World) (spare : Nat → Bool) (held : Bool) (fuel : Nat) (cs : List Value) (x : DataW H × List MemPlace),
    DataW.trod enc P W 0 spare held fuel t cs = some x → ∃ a, RepL (below W) W (encs a) cs ∧ wf a
theorem opc_int {P : Program} {t : TypeId} {k : IntKind} (hu : P.underlying t = some (.int k)) : OpC P t (fun n => [V.int k n]) (fun n => (Lit.int k n).wf = true) := by
  intro H enc W spare held fuel cs x h
  obtain ⟨n, rfl, _, hw⟩ := DataW.trod_int hu h
  exact ⟨n, ⟨_, [], rfl, rfl, rfl, rfl⟩, hw⟩
theorem opc_bool {P : Program} {t : TypeId} (hu : P.underlying t = some .bool) : OpC P t (fun b => [V.bool b]) (fun _ => True) := by
  intro H enc W spare held fuel cs x h
  obtain ⟨n, rfl, _⟩ := DataW.trod_bool hu h
  exact ⟨n, ⟨_, [], rfl, rfl, rfl, rfl⟩, trivial⟩
theorem opc_string {P : Program} {t : TypeId} (hu : P.underlying t = some .string) : OpC P t (fun s => [V.str s]) (fun s => s.size ≤ maxLen) := by
  intro H enc W spare held fuel cs x h
  obtain ⟨n, rfl, _, hs⟩ := DataW.trod_string hu h
  exact ⟨n, ⟨_, [], rfl, rfl, rfl, rfl⟩, hs⟩
theorem list_of {α : Type} {n : Nat} {p : Nat → α → Prop} (h : ∀ i, i < n → ∃ x, p i x) : ∃ l : List α, l.length = n ∧ ∀ i (hi : i < l.length), p i l[i] := by
  induction n with
  | zero => exact ⟨[], rfl, fun i hi => absurd hi (Nat.not_lt_zero _)⟩
  | succ n ih =>
    obtain ⟨l, hl, hp⟩ := ih (fun i hi => h i (Nat.lt_succ_of_lt hi))
    obtain ⟨x, hx⟩ := h n (Nat.lt_succ_self n)
    refine ⟨l ++ [x], by simp [hl], fun i hi => ?_⟩
    by_cases e : i < l.length
    · rw [List.getElem_append_left e]; exact hp i e
    · have : i = n := by simp at hi; omega
      subst this
      rw [List.getElem_append_right (by omega)]
      simpa [hl] using hx
def mkE (k : Nat) (cs : List V) : V := if k = 0 then cs.headD default else .ag cs
theorem repAt_of {S : Nat → Prop} {w : World} {Ad : Option Addr} {e : Nat} : ∀ (xs : List V) (i : Nat), (∀ j x, xs[j]? = some x → ∃ b u, Ad = some b ∧ S b.block ∧ Rep S w x u ∧ u.cells.size = cz e ∧ x.isAg = (e != 0) ∧ ∀ (k : Nat) y, u.cells[k]? = some y → w.cell? (b.add ((i + j) * cz e + k)) = some y) → RepAt S w Ad e i xs
  | [], _, _ => trivial
  | x :: xs, i, h => by
    refine ⟨by simpa using h 0 x rfl, repAt_of xs (i + 1) (fun j y hy => ?_)⟩
    obtain ⟨b, u, h1, h2, h3, h4, h5, h6⟩ := h (j + 1) y (by simpa using hy)
    exact ⟨b, u, h1, h2, h3, h4, h5, fun k z hz => by rw [show i + 1 + j = i + (j + 1) by omega]; exact h6 k z hz⟩
theorem mkE_rep {S : Nat → Prop} {w : World} {k : Nat} {ds : List V} {cs : List Value} (h : RepL S w ds cs) (hl : cs.length = cz k) : ∃ u, Rep S w (mkE k ds) u ∧ u.cells.toList = cs ∧ (mkE k ds).isAg = (k != 0) := by
  unfold mkE
  by_cases hk : k = 0
  · subst hk
    rw [if_pos rfl]
    match ds, cs, h, hl with
    | [d], [c], ⟨u, us', h1, h2, h3, h4⟩, _ =>
      cases h1
      have := h3.cellsNe h2
      exact ⟨c, h3, by rw [this.2], h2⟩
    | [], [], _, hl => cases hl
    | _ :: _ :: _, [], h, _ => obtain ⟨_, _, h1, _⟩ := h; cases h1
    | [_], [], h, _ => obtain ⟨_, _, h1, _⟩ := h; cases h1
    | [_], _ :: _ :: _, _, hl => cases hl
    | [], _ :: _, h, _ => simp [RepL] at h
    | _ :: _ :: _, [_], h, _ => obtain ⟨_, _, h1, _, _, _, _, h2, _⟩ := h; cases h1; cases h2
    | _ :: _ :: _, _ :: _ :: _, _, hl => cases hl
  · rw [if_neg hk]
    exact ⟨.agg cs.toArray, ⟨cs, rfl, h⟩, by simp [Value.cells], by simp [V.isAg, hk]⟩
theorem opc_slice {α : Type} {P : Program} {t e : TypeId} {k : Nat} {encs : α → List V} {wf : α → Prop} (hu : P.underlying t = some (.slice e)) (hk : kindOf P e = some k) (h : OpC P e encs wf) :
    OpC P t (fun l : List α => [V.sl k (l.map fun a => mkE k (encs a))]) (fun l => l.length ≤ maxLen ∧ ∀ x ∈ l, wf x) := by
  intro H enc W spare held fuel cs x hx
  have hsz : P.cellsOf e = cz k := by
    obtain ⟨_, i, _, h1, h2, _⟩ := kindOf_spec hk
    simp [Program.cellsOf, h1, h2]
  rcases open_slice hu hx with ⟨rfl, _⟩ | ⟨a, len, cap, m, n, D, Pl, rfl, _, hl, hm, hmm, _, hel⟩
  · exact ⟨[], ⟨_, [], rfl, rfl, ⟨none, 0, rfl, Nat.le_refl _, Nat.zero_le _, trivial⟩, rfl⟩, Nat.zero_le _, fun x hx => absurd hx (by simp)⟩
  · have hle : len ≤ m := by rw [hmm]; split <;> omega
    obtain ⟨l, hlen, hp⟩ := list_of (p := fun i y => ∃ cs', W.cells? 0 (a.add (i * P.cellsOf e)) (P.cellsOf e) = some cs' ∧ RepL (below W) W (encs y) cs' ∧ wf y) (n := len) (fun i hi => by
      obtain ⟨cs', h1, h2⟩ := hel i (by omega)
      obtain ⟨y, hK, hw⟩ := h H enc W spare held n cs' _ h2
      exact ⟨y, cs', h1, hK, hw⟩)
    subst hlen
    refine ⟨l, ⟨_, [], rfl, rfl, ⟨some a, cap, by simp, by simpa using hl, hm, repAt_of _ 0 (fun j x hj => ?_)⟩, rfl⟩, Nat.le_trans hl hm, fun y hy => ?_⟩
    · simp only [List.getElem?_map, Option.map_eq_some_iff] at hj
      obtain ⟨y, hj, rfl⟩ := hj
      obtain ⟨hj', rfl⟩ := List.getElem?_eq_some_iff.1 hj
      obtain ⟨cs', h1, hK, _⟩ := hp j hj'
      obtain ⟨_, hcl, hcell⟩ := World.cells?_some h1
      rw [hsz] at hcl hcell
      obtain ⟨u, h2, h3, h4⟩ := mkE_rep hK hcl
      have hus : u.cells.size = cz k := by rw [← hcl, ← h3]; simp
      have cell : ∀ (i : Nat) y, u.cells[i]? = some y → W.cell? (a.add (j * cz k + i)) = some y := by
        intro i y hy
        have hi : i < cz k := by have := (Array.getElem?_eq_some_iff.1 hy).1; omega
        have := hcell i hi
        rw [Go.Deep.add_add] at this
        rw [this, ← h3]
        simpa using hy
      refine ⟨a, u, rfl, ?_, h2, hus, h4, fun i y hy => by simpa using cell i y hy⟩
      have h0 : 0 < u.cells.size := by rw [hus]; exact cz_pos k
      have := World.block_lt_of_cell? W _ (cell 0 _ (Array.getElem?_eq_getElem h0))
      rwa [add_block] at this
    · obtain ⟨j, hj, rfl⟩ := List.mem_iff_getElem.1 hy
      obtain ⟨_, _, _, hw⟩ := hp j hj
      exact hw
theorem RepL.append {S : Nat → Prop} {w : World} : ∀ {az bs : List V} {us vs : List Value}, RepL S w az us → RepL S w bs vs → RepL S w (az ++ bs) (us ++ vs)
  | [], _, us, _, h, k => by simp only [RepL] at h; subst h; exact k
  | a :: az, _, us, vs, ⟨u, us', h1, h2, h3, h4⟩, k => by subst h1; exact ⟨u, us' ++ vs, rfl, h2, h3, h4.append k⟩
/-- The fields of a struct, from a place on. -/
def OpF {α : Type} (P : Program) (fs : List Field) (off n : Nat) (encs : α → List V) (wf : α → Prop) : Prop :=
  ∀ (H : Type) (enc : TypeId × Value → H) (W : World) (spare : Nat → Bool) (held : Bool) (fuel : Nat) (cs : List Value), cs.length = off + n →
    (∀ f ∈ fs, ∃ y, DataW.trod enc P W 0 spare held fuel f.type ((cs.drop f.offset).take (P.cellsOf f.type)) = some y) → ∃ a, RepL (below W) W (encs a) (cs.drop off) ∧ wf a
theorem opf_one {α : Type} {P : Program} {f : Field} {off n : Nat} {encs : α → List V} {wf : α → Prop} (ho : f.offset = off) (hc : P.cellsOf f.type = n) (h : OpC P f.type encs wf) : OpF P [f] off n encs wf := by
  intro H enc W spare held fuel cs hl hf
  obtain ⟨y, hy⟩ := hf f (by simp)
  rw [ho, hc, List.take_of_length_le (by rw [List.length_drop]; omega)] at hy
  exact h H enc W spare held fuel _ _ hy
theorem opf_cons {α β : Type} {P : Program} {f : Field} {fs : List Field} {off n m : Nat} {encs : α → List V} {encs1 : β → List V} {wf : α → Prop} {wf1 : β → Prop} (ho : f.offset = off) (hc : P.cellsOf f.type = n) (h : OpC P f.type encs wf) (h1 : OpF P fs (off + n) m encs1 wf1) :
    OpF P (f :: fs) off (n + m) (fun a : α × β => encs a.1 ++ encs1 a.2) (fun a => wf a.1 ∧ wf1 a.2) := by
  intro H enc W spare held fuel cs hl hf
  obtain ⟨y, hy⟩ := hf f (by simp)
  rw [ho, hc] at hy
  obtain ⟨a, hK, hw⟩ := h H enc W spare held fuel _ _ hy
  obtain ⟨b, hK1, hw1⟩ := h1 H enc W spare held fuel cs (by omega) (fun g hg => hf g (by simp [hg]))
  refine ⟨(a, b), ?_, hw, hw1⟩
  have := hK.append hK1
  rwa [← List.drop_drop, List.take_append_drop] at this
theorem opc_struct {α : Type} {P : Program} {t : TypeId} {fs : Array Field} {n : Nat} {encs : α → List V} {wf : α → Prop} (hu : P.underlying t = some (.struct fs)) (hc : P.cellsOf t = n) (h : OpF P fs.toList 0 n encs wf) : OpC P t encs wf := by
  intro H enc W spare held fuel cs x hx
  obtain ⟨xs, m, _, _, hl, hlen, hf⟩ := DataW.trod_struct hu hx
  have := h H enc W spare held m cs (by omega) (fun f hf' => by
    obtain ⟨i, hi, rfl⟩ := List.mem_iff_getElem.1 hf'
    have h2 := hf i fs.toList[i] (by simp at hi ⊢)
    rw [List.getElem?_eq_getElem (by simp at hi; omega)] at h2
    exact ⟨_, h2⟩)
  simpa using this
theorem agg_of {P : Program} {W : World} {r : Reach} {base : Nat} {t : TypeId} {fs : Array Field} {v : Value} (hu : P.underlying t = some (.struct fs)) (hv : Value.okWide P W r base t v) : ∃ cs : Array Value, v = .agg cs := by
  obtain ⟨cs, rfl, _⟩ := okWide_struct hu hv
  exact ⟨cs, rfl⟩
/-- A law's call comes back with true, and what was there is there. -/
theorem law_calls {P : Program} {f : Nat} {az : List A} (h : Sp P f az (.v (.bool true)) []) (W : World) (us : List Value) (hus : ARs (fun _ => none) (fun _ => (0, 0)) (below W) W az us) :
    Calls P f us.toArray W fun e w' => e = .returned (.bool true) ∧ Below W.heap.size W w' := by
  have R0 : Rl W (fun _ => False) (below W) (fun i => ([] : List Ck)[i]?) (fun _ => (0, 0)) (below W) W :=
    ⟨rfl, rfl, rfl, Nat.le_refl _, fun _ _ _ => rfl, fun _ h => h, fun _ h => .inl h, fun _ h => h, fun i => trivial, fun i c hc => (by cases hc), fun i j c d hc => (by cases hc)⟩
  refine (h.2 (below W) W us (fun _ => False) (fun _ => (0, 0)) R0 hus).mono ?_
  rintro e w' ⟨u, S', μ', rfl, R, _, hu⟩
  have : u = .bool true := hu
  exact ⟨by rw [this], R.os, R.tape, R.output, R.size, fun k hk => R.keep k hk (fun h => h)⟩
theorem ar_agg {S : Nat → Prop} {w : World} {ds : List V} {cs : Array Value} (h : RepL S w ds cs.toList) : AR (fun _ => none) (fun _ => (0, 0)) S w (.v (.ag ds)) (.agg cs) := ⟨cs.toList, by simp, h⟩
theorem ar_one {S : Nat → Prop} {w : World} {d : V} {v : Value} (h : RepL S w [d] [v]) : AR (fun _ => none) (fun _ => (0, 0)) S w (.v d) v := by
  obtain ⟨u, us', h1, h2, h3, h4⟩ := h
  cases h1
  exact h3
end Go.Proofs.YtihkjljafjhniaaEv
