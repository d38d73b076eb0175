/- What the code computes, and what it means: part 4 of the proof of FnExactFindEntry. No condition of its own. -/
import Derived.Deep.Slices
import Derived.WalkKit
import Derived.OpenShut
import Derived.ShutString
import Derived.ChangeOld
import Derived.SizedLaws
import Derived.Test.YtkpkhncnenhlaaaGreatDoorCXFindEntry3
namespace Go.Proofs.YtkpkhncnenhlaaaGreatDoorEv
open Go Go.Proofs
set_option maxRecDepth 10000
set_option maxHeartbeats 2000000
abbrev aS (s : ByteArray) : A := .v (.str s)
abbrev En := ByteArray × PV
def ve (e : En) : V := .ag [.str e.1, .int .i64 e.2.1, .int .i64 e.2.2.1.1, .int .i64 e.2.2.1.2.1, .int .i64 e.2.2.1.2.2, vis e.2.2.2]
def es (l : List En) : List V := l.map ve
abbrev ves (l : List En) : V := .sl 6 (es l)
abbrev aE (e : En) : A := .v (.ag [.str e.1, .int .i64 e.2.1, .int .i64 e.2.2.1.1, .int .i64 e.2.2.1.2.1, .int .i64 e.2.2.1.2.2, vis e.2.2.2])
@[simp] theorem es_nil : es [] = [] := rfl
@[simp] theorem es_len (l : List En) : (es l).length = l.length := by simp [es]
@[simp] theorem es_get (l : List En) (n : Nat) (K : V → Prop) : fA ((es l)[n]?) K = ∀ e, l[n]? = some e → K (.ag [.str e.1, .int .i64 e.2.1, .int .i64 e.2.2.1.1, .int .i64 e.2.2.1.2.1, .int .i64 e.2.2.1.2.2, .sl 0 (is e.2.2.2)]) := by unfold es; exact fA_map
@[simp] theorem es_set (l : List En) (n : Nat) (s : ByteArray) (f a b c : Int) (k : List Int) : (es l).set n (.ag [.str s, .int .i64 f, .int .i64 a, .int .i64 b, .int .i64 c, .sl 0 (is k)]) = es (l.set n (s, f, (a, b, c), k)) := by simp [es, ve, List.map_set]
@[simp] theorem es_take (l : List En) (n : Nat) : (es l).take n = es (l.take n) := by simp [es, List.map_take]
@[simp] theorem es_rep (n : Nat) (s : ByteArray) (f a b c : Int) : List.replicate n (V.ag [.str s, .int .i64 f, .int .i64 a, .int .i64 b, .int .i64 c, .sl 0 []]) = es (List.replicate n (s, f, (a, b, c), [])) := by simp [es, ve]
theorem ve_inj (x y : En) (e : ve x = ve y) : x = y := by
  obtain ⟨s, f, ⟨a, b, c⟩, l⟩ := x
  obtain ⟨s', f', ⟨a', b', c'⟩, l'⟩ := y
  simp only [ve, V.ag.injEq, List.cons.injEq, V.int.injEq, V.str.injEq, V.sl.injEq, true_and, and_true] at e
  obtain ⟨rfl, rfl, rfl, rfl, rfl, h5⟩ := e
  simp at h5
  rw [h5]
@[simp] theorem es_inj (a b : List En) : es a = es b ↔ a = b := by
  constructor
  · exact fun h => (List.map_inj_right (fun x y e => ve_inj x y e)).1 h
  · rintro rfl; rfl
/-! what laws do with them -/
def szE (n : Int) (e : En) : Int := if n < e.1.size then -1 else if n - e.1.size < e.2.2.2.length then -1 else n - e.1.size - e.2.2.2.length
theorem s_szE1 (e : En) (n : Int) (h1 : e.1.size ≤ maxLen) (h2 : e.2.2.2.length ≤ maxLen) (hn : 0 ≤ n ∧ n ≤ 1048576) : Sp Tryz.prog 28 [aE e, vi n] (vi (szE n e)) [] := by
  refine sp_of (m := no) mixed Tryz.func28 k28 ?_
  rw [mLen] at h1
  unfold szE
  simp -dsimp [q]
  rw [w64 (by omega) (by omega)]
  refine ⟨fun h => fun h6 => by omega, fun h => ?_⟩
  rw [if_neg (by omega)]
  have w := s_szP e.2.1 e.2.2.1.1 e.2.2.1.2.1 e.2.2.1.2.2 e.2.2.2 (n - e.1.size) h2 ⟨by omega, by omega⟩
  refine call_of (w) rfl (by simp) ?_
  try simp -dsimp
  try (first | exact fp_one (by decide) | refine fp_and (by decide) ?_)
  by_cases h4 : n - (e.1.size : Int) < e.2.2.2.length
  · rw [if_pos h4]
    simp
    omega
  · rw [if_neg h4]
    intro h5
    omega
def szF (n : Int) : List En → Int
  | [] => n
  | e :: l => if szE n e < 0 then -1 else szF (szE n e) l
theorem szF_cons (n : Int) (e : En) (l : List En) : szF n (e :: l) = if szE n e < 0 then -1 else szF (szE n e) l := rfl
theorem szE_le {n : Int} {e : En} (h : ¬ szE n e < 0) : 0 ≤ szE n e ∧ szE n e ≤ n ∧ (e.1.size : Int) ≤ n ∧ (e.2.2.2.length : Int) ≤ n := by
  unfold szE at *
  split at h
  · omega
  · split at h
    · omega
    · rename_i h1 h2
      rw [if_neg h1, if_neg h2]
      omega
theorem szF_le : ∀ (l : List En) (n : Int), 0 ≤ n → 0 ≤ szF n l → ∀ e ∈ l, (e.1.size : Int) ≤ n ∧ (e.2.2.2.length : Int) ≤ n
  | [], _, _, _, _, he => by cases he
  | x :: l, n, hn, h, e, he => by
    unfold szF at h
    by_cases hx : szE n x < 0
    · rw [if_pos hx] at h; omega
    · rw [if_neg hx] at h
      obtain ⟨q1, q2, q3, q4⟩ := szE_le hx
      rcases List.mem_cons.1 he with rfl | he
      · exact ⟨q3, q4⟩
      · have := szF_le l _ q1 h e he
        omega
def wfE (e : En) : Prop := e.1.size ≤ maxLen ∧ e.2.2.2.length ≤ maxLen
theorem s_szES (l : List En) (n : Int) (h : l.length ≤ maxLen) (hw : ∀ e ∈ l, wfE e) (hn : 0 ≤ n ∧ n ≤ 1048576) : Sp Tryz.prog 8 [.v (ves l), vi n] (vi (if n < l.length then -1 else szF (n - l.length) l)) [] := by
  refine sp_of (m := no) mixed Tryz.func8 k8 ?_
  rw [mLen] at h
  simp -dsimp [q]
  rw [w64 (by omega) (by omega)]
  refine ⟨fun h1 => fun h2 => by omega, fun h1 => ?_⟩
  rw [if_neg (by omega)]
  refine awp_it (true :: true :: false :: false :: false :: true :: []) (fun s : Nat × Int => [(1, vi s.2), (5, vi s.1)]) (fun s => []) (fun s => s.1 ≤ l.length ∧ (0 ≤ s.2 ∧ s.2 ≤ 1048576) ∧ szF s.2 (l.drop s.1) = szF (n - l.length) l) (fun s => l.length - s.1) (0, n - l.length) ?_
  intro s0 e
  simp -dsimp at e
  subst e
  refine ⟨?_, ?_⟩
  · simp
    omega
  rintro ⟨i, k⟩ ⟨hi, hk, hs⟩
  simp only at hi hk hs
  by_cases hlt : i < l.length
  case neg =>
    rw [List.drop_of_length_le (by omega)] at hs
    simp -dsimp [show ¬ ((i : Int) < l.length) by omega, ← hs, szF]
  obtain ⟨e, he⟩ : ∃ e, l[i]? = some e := ⟨_, List.getElem?_eq_getElem hlt⟩
  have hwe := hw e (List.mem_of_getElem? he)
  have w := s_szE1 e k hwe.1 hwe.2 hk
  have hd : l.drop i = e :: l.drop (i + 1) := by
    rw [List.drop_eq_getElem_cons hlt, (List.getElem?_eq_some_iff.1 he).2]
  rw [hd, szF_cons] at hs
  have hle := szE_le (n := k) (e := e)
  generalize szE k e = r at *
  simp -dsimp [show ((i : Int) < l.length) by omega, -Prod.forall, -Prod.exists]
  intro e' he'
  rw [he] at he'
  cases he'
  refine call_of (w) rfl (by simp) ?_
  try simp -dsimp
  try (first | exact fp_one (by decide) | refine fp_and (by decide) ?_)
  by_cases hr : r < 0
  · rw [if_pos hr] at hs
    rw [← hs]
    simp [hr]
    omega
  · rw [if_neg hr] at hs
    have := hle hr
    refine ⟨fun h => absurd h hr, fun _ => ⟨i + 1, r, ⟨rfl, by rw [w64 (by omega) (by omega)]; simp⟩, ⟨by omega, ⟨by omega, by omega⟩, hs⟩, by omega⟩⟩
theorem s_toP' (f a b c : Int) (l : List Int) (hc : l.length ≤ 1048576) : Sp Tryz.prog 15 [aP f a b c l] (aP f a b c l) [] := by
  refine sp_of (m := no) mixed Tryz.func15 k15 ?_
  simp -dsimp [q]
  refine call_of (s_toL a b c) rfl (by simp) ?_
  try simp -dsimp
  try (first | exact fp_one (by decide) | refine fp_and (by decide) ?_)
  refine call_of (s_to l hc) rfl (by simp) ?_
  try simp -dsimp
  try (first | exact fp_one (by decide) | refine fp_and (by decide) ?_)
theorem s_toE (e : En) (hc : e.2.2.2.length ≤ 1048576) : Sp Tryz.prog 36 [aE e] (aE e) [] := by
  refine sp_of (m := no) mixed Tryz.func36 k36 ?_
  have w := s_toP' e.2.1 e.2.2.1.1 e.2.2.1.2.1 e.2.2.1.2.2 e.2.2.2 hc
  simp -dsimp [q]
  refine call_of (w) rfl (by simp) ?_
  try simp -dsimp
  try (first | exact fp_one (by decide) | refine fp_and (by decide) ?_)
theorem s_toES (l : List En) (h : l.length ≤ 1048576) (hc : ∀ e ∈ l, e.2.2.2.length ≤ 1048576) : Sp Tryz.prog 10 [.v (ves l)] (.sli 0) [.row 6 56 (es l)] := by
  refine sp_of (m := no) mixed Tryz.func10 k10 ?_
  simp -dsimp [q]
  refine ⟨⟨by omega, by omega⟩, ?_⟩
  refine awp_it (true :: false :: false :: true :: true :: []) (fun i : Nat => [(4, vi i)]) (fun i => [(0, .row 6 56 (es (l.take i ++ List.replicate (l.length - i) (⟨#[]⟩, 0, (0, 0, 0), []))))]) (fun i => i ≤ l.length) (fun i => l.length - i) 0 ?_
  intro s0 e
  simp -dsimp at e
  subst e
  refine ⟨?_, ?_⟩
  · simp
  intro i hi
  simp -dsimp [-Prod.forall, -Prod.exists]
  refine ⟨fun h1 => ⟨h1, fun g ha => ?_⟩, fun h1 => ?_⟩
  · refine call_of (s_toE g (hc g (List.mem_of_getElem? ha))) rfl (by simp) ?_
    try simp -dsimp
    try (first | exact fp_one (by decide) | refine fp_and (by decide) ?_)
    refine ⟨by omega, by omega, i + 1, ⟨by rw [w64 (by omega) (by omega)]; simp, ?_⟩, by omega, by omega⟩
    exact fill_set ha
  · have : i = l.length := by omega
    subst this
    simp
theorem s_eqE (x y : En) (hl : x.2.2.2.length ≤ 1048576) : Sp Tryz.prog 43 [aE x, aE y] (vb (decide (x = y))) [] := by
  have w := s_eqP x.2.1 x.2.2.1.1 x.2.2.1.2.1 x.2.2.1.2.2 x.2.2.2 y.2.1 y.2.2.1.1 y.2.2.1.2.1 y.2.2.1.2.2 y.2.2.2 hl
  have e : decide (x = y) = (decide (x.1 = y.1) && decide (x.2.1 = y.2.1 ∧ (x.2.2.1.1 = y.2.2.1.1 ∧ x.2.2.1.2.1 = y.2.2.1.2.1 ∧ x.2.2.1.2.2 = y.2.2.1.2.2) ∧ x.2.2.2 = y.2.2.2)) := by
    obtain ⟨s, f, ⟨a, b, c⟩, l⟩ := x
    obtain ⟨s', f', ⟨a', b', c'⟩, l'⟩ := y
    rw [Bool.eq_iff_iff, Bool.and_eq_true, decide_eq_true_iff, decide_eq_true_iff, decide_eq_true_iff]
    simp [and_assoc]
  rw [e]
  generalize decide (x.2.1 = y.2.1 ∧ (x.2.2.1.1 = y.2.2.1.1 ∧ x.2.2.1.2.1 = y.2.2.1.2.1 ∧ x.2.2.1.2.2 = y.2.2.1.2.2) ∧ x.2.2.2 = y.2.2.2) = b2 at *
  by_cases h1 : x.1 = y.1
  · rw [decide_eq_true h1, Bool.true_and]
    refine sp_of (m := no) mixed Tryz.func43 k43 ?_
    simp -dsimp [q, h1]
    refine call_of (w) rfl (by simp) ?_
    try simp -dsimp
    try (first | exact fp_one (by decide) | refine fp_and (by decide) ?_)
  · rw [decide_eq_false h1, Bool.false_and]
    refine sp_of (m := no) mixed Tryz.func43 k43 ?_
    simp -dsimp [q, h1]
theorem s_eqES (xs ys : List En) (hx : xs.length ≤ 1048576) (hc : ∀ e ∈ xs, e.2.2.2.length ≤ 1048576) : Sp Tryz.prog 12 [.v (ves xs), .v (ves ys)] (vb (decide (xs = ys))) [] := by
  refine sp_of (m := no) mixed Tryz.func12 k12 ?_
  simp -dsimp [q]
  refine ⟨fun h e => h (by rw [e]), fun hl => ?_⟩
  refine awp_it (true :: true :: false :: false :: false :: true :: []) (fun i : Nat => [(5, vi i)]) (fun i => []) (fun i => i ≤ xs.length ∧ xs.take i = ys.take i) (fun i => xs.length - i) 0 ?_
  intro s0 e
  simp -dsimp at e
  subst e
  refine ⟨?_, ?_⟩
  · simp
  intro i hi
  simp -dsimp [-Prod.forall, -Prod.exists]
  obtain ⟨hi, ht⟩ := hi
  refine ⟨fun h1 => ⟨h1, fun g ha => ⟨by omega, fun h hb => ?_⟩⟩, fun h1 => ?_⟩
  · have w := s_eqE g h (hc g (List.mem_of_getElem? ha))
    by_cases e : g = h
    · subst e
      rw [decide_eq_true rfl] at w
      refine call_of (w) rfl (by simp) ?_
      try simp -dsimp
      try (first | exact fp_one (by decide) | refine fp_and (by decide) ?_)
      refine ⟨i + 1, by rw [w64 (by omega) (by omega)]; simp, ⟨by omega, ?_⟩, by omega⟩
      rw [List.take_add_one, List.take_add_one, ht, ha, hb]
    · rw [decide_eq_false e] at w
      refine call_of (w) rfl (by simp) ?_
      try simp -dsimp
      try (first | exact fp_one (by decide) | refine fp_and (by decide) ?_)
      rintro rfl
      rw [ha] at hb
      cases hb
      exact e rfl
  · have h2 : i = xs.length := by omega
    subst h2
    rw [List.take_length, List.take_of_length_le (by omega)] at ht
    exact ht
end Go.Proofs.YtkpkhncnenhlaaaGreatDoorEv
namespace Go.Proofs.YtkpkhncnenhlaaaGreatDoorEv
open Go Go.Proofs
set_option maxRecDepth 10000
set_option maxHeartbeats 2000000
def isAz (b : UInt8) : Bool := List.contains letrs.data.toList b
theorem isAz_nat : ∀ n, n < 256 → (isAz (UInt8.ofNat n) = true ↔ 97 ≤ n ∧ n ≤ 122) := by
  have h : (List.range 256).all (fun n => isAz (UInt8.ofNat n) == decide (97 ≤ n ∧ n ≤ 122)) = true := by decide +kernel
  intro n hn
  have := List.all_eq_true.1 h n (List.mem_range.2 hn)
  rw [beq_iff_eq] at this
  rw [this, decide_eq_true_iff]
theorem isAz_iff (b : UInt8) : isAz b = true ↔ 97 ≤ b.toNat ∧ b.toNat ≤ 122 := by
  have := isAz_nat b.toNat b.toNat_lt
  rwa [UInt8.ofNat_toNat] at this
theorem ba_get (s : ByteArray) (n : Nat) : s[n]? = s.data.toList[n]? := by
  by_cases h : n < s.size
  · rw [Lib.data_getElem? s n h, getElem?_pos s n h]
  · rw [getElem?_neg s n h, List.getElem?_eq_none (by rw [← Lib.size_eq]; omega)]
@[simp] theorem fA_ba {s : ByteArray} {n : Nat} {K : UInt8 → Prop} : fA (s[n]?) K = ∀ a, s.data[n]? = some a → K a := by
  rw [ba_get, Array.getElem?_toList]
  rfl
theorem dw_nil (p : UInt8 → Bool) : ∀ l : List UInt8, l.dropWhile p = [] ↔ l.all p = true
  | [] => by simp
  | x :: l => by
    cases h : p x
    · rw [List.dropWhile_cons_of_neg (by rw [h]; simp)]; simp [h]
    · rw [List.dropWhile_cons_of_pos h, dw_nil p l]; simp [h]
theorem dw_all (p : UInt8 → Bool) : ∀ l : List UInt8, (l.dropWhile p).all p = l.all p
  | [] => rfl
  | x :: l => by
    cases h : p x
    · rw [List.dropWhile_cons_of_neg (by rw [h]; simp)]
    · rw [List.dropWhile_cons_of_pos h, dw_all p l, List.all_cons, h, Bool.true_and]
theorem trim_all (l : List UInt8) : Lib.trimS l letrs.data.toList = [] ↔ l.all isAz = true := by
  show List.dropWhile isAz (List.dropWhile isAz l.reverse).reverse = [] ↔ _
  rw [dw_nil, List.all_reverse, dw_all, List.all_reverse]
theorem ba_empty {l : List UInt8} : (⟨l.toArray⟩ : ByteArray) = ⟨#[]⟩ ↔ l = [] := by
  constructor
  · intro h
    have := congrArg (fun t : ByteArray => t.data.toList) h
    simpa using this
  · rintro rfl; rfl
def okN (s : ByteArray) : Bool := decide (1 ≤ s.size ∧ s.size ≤ 12) && s.data.toList.all isAz
theorem okN_iff {s : ByteArray} : okN s = true ↔ (1 ≤ s.size ∧ s.size ≤ 12) ∧ s.data.toList.all isAz = true := by
  unfold okN
  rw [Bool.and_eq_true, decide_eq_true_iff]
theorem okN_f {s : ByteArray} (h : ¬ ((1 ≤ s.size ∧ s.size ≤ 12) ∧ s.data.toList.all isAz = true)) : okN s = false := by
  cases hb : okN s with
  | false => rfl
  | true => exact absurd (okN_iff.1 hb) h
theorem s_isN (s : ByteArray) (hs : s.size ≤ 9223372036854775807) : Sp Tryz.prog 37 [aS s] (vb (okN s)) [] := by
  have w1 := s_trim s hs
  have e := trim_all s.data.toList
  refine sp_of (m := no) mixed Tryz.func37 k37 ?_
  simp -dsimp [q]
  refine ⟨fun h1 => ⟨fun h2 => ?_, fun h2 => okN_f (fun h => by omega)⟩, fun h1 => okN_f (fun h => by omega)⟩
  refine call_of (w1) rfl (by simp) ?_
  try simp -dsimp
  try (first | exact fp_one (by decide) | refine fp_and (by decide) ?_)
  have h3 : okN s = true ↔ Lib.trimS s.data.toList letrs.data.toList = [] := by
    rw [okN_iff, e]
    exact ⟨fun h => h.2, fun h => ⟨⟨by omega, by omega⟩, h⟩⟩
  cases ho : okN s with
  | true => exact decide_eq_true (h3.1 ho)
  | false => exact decide_eq_false (fun h => by rw [h3.2 h] at ho; cases ho)
theorem s_sisN (s : ByteArray) (hs : s.size ≤ 1048576) : Sp Tryz.prog 29 [aS s] (vb (okN s)) [] := by
  refine sp_of (m := no) mixed Tryz.func29 k29 ?_
  simp -dsimp [q]
  refine awp_it (true :: false :: false :: true :: []) (fun i : Nat => [(3, vi i)]) (fun i => []) (fun i => i ≤ s.size ∧ (s.data.toList.take i).all isAz = true) (fun i => s.size - i) 0 ?_
  intro s0 e
  simp -dsimp at e
  subst e
  refine ⟨?_, ?_⟩
  · simp
  rintro i ⟨hi, ha⟩
  have bad : ∀ x : UInt8, s.data[i]? = some x → isAz x = false → okN s = false := fun x hx hb => okN_f (fun h => by
    have hm : x ∈ s.data.toList := by rw [Array.mem_toList_iff]; exact Array.mem_of_getElem? hx
    rw [List.all_eq_true.1 h.2 x hm] at hb
    cases hb)
  have hsz := Lib.size_eq s
  simp -dsimp
  refine ⟨fun h1 => ⟨h1, fun x hx => ⟨fun h2 => ⟨h1, fun y hy => ?_⟩, fun h2 => bad x hx ?_⟩⟩, fun h1 => ?_⟩
  · rw [hx] at hy
    cases hy
    refine ⟨fun h3 => bad x hx ?_, fun h3 => ⟨i + 1, by rw [w64 (by omega) (by omega)]; simp, ⟨by omega, fun z hz => ?_⟩, by omega⟩⟩
    · cases hb : isAz x with
      | false => rfl
      | true => have := (isAz_iff x).1 hb; omega
    · rw [List.take_add_one, Array.getElem?_toList, hx] at hz
      rcases List.mem_append.1 hz with hz | hz
      · exact List.all_eq_true.1 ha z hz
      · simp only [Option.toList_some, List.mem_singleton] at hz
        rw [hz, isAz_iff]
        omega
  · cases hb : isAz x with
    | false => rfl
    | true => have := (isAz_iff x).1 hb; omega
  · rw [List.take_of_length_le (by omega)] at ha
    refine ⟨fun h2 => ?_, fun h2 => okN_f (fun h => by omega)⟩
    cases ho : okN s with
    | true => exact decide_eq_true (by have := (okN_iff.1 ho).1; omega)
    | false => exact decide_eq_false (fun h => by rw [okN_iff.2 ⟨⟨by omega, by omega⟩, ha⟩] at ho; cases ho)
def hasN (l : List En) (s : ByteArray) : Bool := l.any fun e => decide (e.1 = s)
theorem s_named1 (e : En) (s : ByteArray) : Sp Tryz.prog 71 [aE e, .fq [.str s]] (vb (decide (e.1 = s))) [] := by
  refine sp_of (m := no) mixed Tryz.func71 k71 ?_
  simp -dsimp [q]
theorem s_fiE (l : List En) (f : Nat) (cs : List A) (p : En → Bool) (h : l.length ≤ 1048576) (hc : cs.all A.shut = true) (hf : ∀ v ∈ l, Sp Tryz.prog f (aE v :: cs) (vb (p v)) []) : Sp Tryz.prog 70 [.v (ves l), .fn f cs] (vi (if l.any p = true then l.findIdx p else -1)) [] := by
  refine sp_of (m := no) mixed Tryz.func70 k70 ?_
  simp -dsimp [q, -Prod.forall, -Prod.exists]
  refine awp_it (true :: true :: false :: false :: false :: false :: false :: true :: true :: []) (fun i : Nat => [(8, vi i)]) (fun i => []) (fun i => i ≤ l.length ∧ ∀ x ∈ l.take i, p x = false) (fun i => l.length - i) 0 ?_
  intro s0 e
  simp -dsimp [hc] at e
  subst e
  refine ⟨?_, ?_⟩
  · simp [hc]
  rintro i ⟨hi, hi2⟩
  simp -dsimp [hc, -Prod.forall, -Prod.exists]
  refine ⟨fun h1 => ⟨h1, fun x ha => call_of (rd := []) (hf x (List.mem_of_getElem? ha)) (by simp [toArgs_shut hc]) (by simp) ?_⟩, fun h1 => ?_⟩
  · simp -dsimp [hc, -Prod.forall, -Prod.exists]
    obtain ⟨_, hal⟩ := List.getElem?_eq_some_iff.1 ha
    refine ⟨fun hp => ?_, fun hp => ⟨i + 1, by rw [w64 (by omega) (by omega)]; simp, ⟨by omega, fun x' hx => ?_⟩, by omega⟩⟩
    · rw [if_pos ⟨x, List.mem_of_getElem? ha, hp⟩, (List.findIdx_eq h1).2 ⟨by rw [hal]; exact hp, fun j hj => hi2 _ (List.mem_iff_getElem.2 ⟨j, by simp; omega, by simp⟩)⟩]
    · rw [List.take_add_one, ha] at hx
      rcases List.mem_append.1 hx with hx | hx
      · exact hi2 _ hx
      · simp only [Option.toList_some, List.mem_singleton] at hx; rw [hx]; exact hp
  · rw [List.take_of_length_le h1] at hi2
    exact hi2
def nmI (l : List En) (s : ByteArray) : Int := if hasN l s = true then (l.findIdx fun e => decide (e.1 = s)) else -1
theorem s_named (l : List En) (s : ByteArray) (h : l.length ≤ 1048576) : Sp Tryz.prog 38 [.v (ves l), aS s] (vi (nmI l s)) [] := by
  have w := s_fiE l 71 [.fq [.str s]] (fun e => decide (e.1 = s)) h rfl (fun e _ => s_named1 e s)
  rw [show (if (l.any fun e => decide (e.1 = s)) = true then ((l.findIdx fun e => decide (e.1 = s) : Nat) : Int) else -1) = nmI l s from rfl] at w
  refine sp_of (m := no) mixed Tryz.func38 k38 ?_
  simp -dsimp [q]
  refine call_of (w) rfl (by simp) ?_
  try simp -dsimp
  try (first | exact fp_one (by decide) | refine fp_and (by decide) ?_)
theorem s_sidx (l : List En) (s : ByteArray) (h : l.length ≤ 1048576) : Sp Tryz.prog 30 [.v (ves l), aS s] (vi (nmI l s)) [] := by
  refine sp_of (m := no) mixed Tryz.func30 k30 ?_
  simp -dsimp [q]
  refine awp_it (true :: true :: false :: false :: false :: true :: []) (fun i : Nat => [(5, vi i)]) (fun i => []) (fun i => i ≤ l.length ∧ ∀ x ∈ l.take i, ¬ x.1 = s) (fun i => l.length - i) 0 ?_
  intro s0 e
  simp -dsimp at e
  subst e
  refine ⟨?_, ?_⟩
  · simp
  rintro i ⟨hi, hi2⟩
  simp -dsimp [-Prod.forall, -Prod.exists]
  refine ⟨fun h1 => ⟨h1, fun e he => ⟨fun h2 => ?_, fun h2 => ⟨i + 1, by rw [w64 (by omega) (by omega)]; simp, ⟨by omega, fun x hx => ?_⟩, by omega⟩⟩⟩, fun h1 => ?_⟩
  · obtain ⟨_, hal⟩ := List.getElem?_eq_some_iff.1 he
    unfold nmI hasN
    rw [if_pos (List.any_eq_true.2 ⟨e, List.mem_of_getElem? he, decide_eq_true h2⟩), (List.findIdx_eq h1).2 ⟨by rw [hal]; exact decide_eq_true h2, fun j hj => decide_eq_false (hi2 _ (List.mem_iff_getElem.2 ⟨j, by simp; omega, by simp⟩))⟩]
  · rcases mem_take_succ he hx with hx | hx
    · exact hi2 x hx
    · rw [hx]; exact h2
  · rw [List.take_of_length_le h1] at hi2
    unfold nmI hasN
    rw [if_neg (by
      rw [List.any_eq_true]
      rintro ⟨x, hx, h⟩
      exact hi2 x hx (of_decide_eq_true h))]
theorem s_same (P Q : PV) (hl : P.2.2.length ≤ 1048576) : Sp Tryz.prog 40 [aPV P, aPV Q] (vb (decide (P = Q))) [] := by
  have w := s_equal P.2.2 Q.2.2 hl
  obtain ⟨f, ⟨a, b, c⟩, l⟩ := P
  obtain ⟨f', ⟨a', b', c'⟩, l'⟩ := Q
  simp only at w
  generalize hT : decide ((f, (a, b, c), l) = (f', (a', b', c'), l')) = T
  refine sp_of (m := no) mixed Tryz.func40 k40 ?_
  simp -dsimp [q]
  have no : ¬ (f = f' ∧ a = a' ∧ b = b' ∧ c = c' ∧ l = l') → T = false := fun h => by
    rw [← hT]
    refine decide_eq_false fun e => h ?_
    cases e
    exact ⟨rfl, rfl, rfl, rfl, rfl⟩
  refine ⟨fun h1 => ⟨fun h2 h3 h4 => ?_, fun h => no (fun e => h e.2.1 e.2.2.1 e.2.2.2.1)⟩, fun h => no (fun e => h e.1)⟩
  subst h1 h2 h3 h4
  have e : decide (l = l') = T := by
    rw [← hT, Bool.eq_iff_iff, decide_eq_true_iff, decide_eq_true_iff]
    simp
  rw [e] at w
  refine call_of (w) rfl (by simp) ?_
  try simp -dsimp
  try (first | exact fp_one (by decide) | refine fp_and (by decide) ?_)
theorem s_ssame2 (P Q : PV) (hl : P.2.2.length ≤ 1048576) : Sp Tryz.prog 32 [aPV P, aPV Q] (vb (decide (P = Q))) [] := by
  have w := s_ssameP P.1 P.2.1.1 P.2.1.2.1 P.2.1.2.2 P.2.2 Q.1 Q.2.1.1 Q.2.1.2.1 Q.2.1.2.2 Q.2.2 hl
  have e : decide (P.1 = Q.1 ∧ (P.2.1.1 = Q.2.1.1 ∧ P.2.1.2.1 = Q.2.1.2.1 ∧ P.2.1.2.2 = Q.2.1.2.2) ∧ P.2.2 = Q.2.2) = decide (P = Q) := by
    obtain ⟨f, ⟨a, b, c⟩, l⟩ := P
    obtain ⟨f', ⟨a', b', c'⟩, l'⟩ := Q
    rw [Bool.eq_iff_iff, decide_eq_true_iff, decide_eq_true_iff]
    simp [and_assoc]
  rwa [e] at w
open Classical in
noncomputable def canP (Q : PV) : PV := if h : okPV Q = true then (canon_both (f := Q.1) (a := Q.2.1.1) (b := Q.2.1.2.1) (c := Q.2.1.2.2) (l := Q.2.2) h).choose else Q
theorem canP_spec {Q : PV} (h : okPV Q = true) : (canP Q).1 = Q.1 ∧ okPV (canP Q) = true ∧ Sp Tryz.prog 41 [aPV Q] (aPV (canP Q)) [] ∧ ∃ L, Sp Tryz.prog 34 [aPV Q] (.v L) [] ∧ Sp Tryz.prog 33 [.v L] (aPV (canP Q)) [] := by
  unfold canP
  rw [dif_pos h]
  exact (canon_both (f := Q.1) (a := Q.2.1.1) (b := Q.2.1.2.1) (c := Q.2.1.2.2) (l := Q.2.2) h).choose_spec
end Go.Proofs.YtkpkhncnenhlaaaGreatDoorEv
namespace Go.Proofs.YtkpkhncnenhlaaaGreatDoorEv
open Go Go.Proofs
set_option maxRecDepth 10000
set_option maxHeartbeats 2000000
structure gdE (l : List En) (i : Nat) (e : En) : Prop where
  n : okN e.1 = true
  h : hasN (l.take i) e.1 = false
  p : okPV e.2 = true
  c : canP e.2 = e.2
  o : ∀ p, 0 < i → l[i - 1]? = some p → ltP p.2 e.2 = true
def catI (l : List En) (i : Nat) : Prop := ∀ j e, j < i → l[j]? = some e → gdE l j e
def isCat (l : List En) : Prop := l.length ≤ 30 ∧ catI l l.length
theorem catI_succ {l : List En} {i : Nat} {e : En} (h : catI l i) (he : l[i]? = some e) (g : gdE l i e) : catI l (i + 1) := fun j x hj hx => by
  rcases Nat.lt_succ_iff_lt_or_eq.1 hj with h1 | h1
  · exact h j x h1 hx
  · subst h1
    rw [he] at hx
    cases hx
    exact g
theorem cat_bad {l : List En} {i : Nat} {e : En} (he : l[i]? = some e) (g : ¬ gdE l i e) : cdec (isCat l) = false := cdec_f fun h => g (h.2 i e (List.getElem?_eq_some_iff.1 he).1 he)
theorem cat_done {l : List En} (h : catI l l.length) : cdec (isCat l) = decide ((l.length : Int) ≤ 30) := by
  by_cases h1 : l.length ≤ 30
  · rw [decide_eq_true (by omega)]; exact cdec_t ⟨h1, h⟩
  · rw [decide_eq_false (by omega)]; exact cdec_f fun h2 => h1 h2.1
theorem okPV_len {P : PV} (h : okPV P = true) : P.2.2.length ≤ 64 := by
  obtain ⟨_, h2, h3, _⟩ := okP_spec.1 h
  obtain ⟨_, _, _, hac⟩ := okL_spec.1 h2
  omega
theorem okPV_cmpb {P Q : PV} (h : okPV P = true) (k : okPV Q = true) : cmpb P Q := by
  refine ⟨fun e => ?_, by have := okPV_len h; omega, by have := okPV_len k; omega⟩
  obtain ⟨_, _, h3, _⟩ := okP_spec.1 h
  obtain ⟨_, _, k3, _⟩ := okP_spec.1 k
  rw [e] at h3
  omega
theorem nmI_neg {l : List En} {s : ByteArray} (h : hasN l s = false) : nmI l s = -1 := by unfold nmI; rw [h]; simp
theorem nmI_pos {l : List En} {s : ByteArray} (h : hasN l s = true) : 0 ≤ nmI l s := by unfold nmI; rw [if_pos h]; omega
theorem nmI_at {l : List En} {i : Nat} {e : En} (he : l[i]? = some e) : nmI l e.1 = i ↔ hasN (l.take i) e.1 = false := by
  obtain ⟨hi, hal⟩ := List.getElem?_eq_some_iff.1 he
  have hh : hasN l e.1 = true := List.any_eq_true.2 ⟨e, List.mem_of_getElem? he, decide_eq_true rfl⟩
  unfold nmI
  rw [if_pos hh]
  constructor
  · intro h
    have h2 : l.findIdx (fun x => decide (x.1 = e.1)) = i := by omega
    unfold hasN
    rw [List.any_eq_false]
    intro x hx
    obtain ⟨j, hj, rfl⟩ := List.mem_take_iff_getElem.1 hx
    have := List.not_of_lt_findIdx (p := fun x : En => decide (x.1 = e.1)) (xs := l) (i := j) (by omega)
    simpa using this
  · intro h
    have : l.findIdx (fun x => decide (x.1 = e.1)) = i := (List.findIdx_eq hi).2 ⟨by rw [hal]; simp, fun j hj => by
      have := List.any_eq_false.1 h _ (List.mem_iff_getElem.2 ⟨j, by simp; omega, List.getElem_take⟩)
      simpa using this⟩
    rw [this]
theorem s_isCat (l : List En) (h : l.length ≤ 1048576) (hw : ∀ e ∈ l, e.1.size ≤ 1048576 ∧ e.2.2.2.length ≤ 1048576) : Sp Tryz.prog 11 [.v (ves l)] (vb (cdec (isCat l))) [] := by
  refine sp_of (m := no) mixed Tryz.func11 k11 ?_
  simp -dsimp [q]
  refine awp_it (true :: false :: false :: false :: false :: true :: true :: true :: []) (fun i : Nat => [(7, vi i)]) (fun i => []) (fun i => i ≤ l.length ∧ catI l i) (fun i => l.length - i) 0 ?_
  intro s0 e
  simp -dsimp at e
  subst e
  refine ⟨?_, ?_⟩
  · simp [catI]
  rintro i ⟨hi, hc⟩
  by_cases hlt : i < l.length
  case neg =>
    have : i = l.length := by omega
    subst this
    rw [cat_done hc]
    simp -dsimp
  obtain ⟨e, he⟩ : ∃ e, l[i]? = some e := ⟨_, List.getElem?_eq_getElem hlt⟩
  have hwe := hw e (List.mem_of_getElem? he)
  simp -dsimp [show ((i : Int) < l.length) by omega, -Prod.forall, -Prod.exists]
  intro e' he'
  rw [he] at he'
  cases he'
  have w1 := s_isN e.1 (by omega)
  by_cases g1 : okN e.1 = true
  case neg =>
    rw [Bool.eq_false_iff.2 g1] at w1
    rw [cat_bad he (fun g => g1 g.n)]
    refine call_of (w1) rfl (by simp) ?_
    try simp -dsimp
    try (first | exact fp_one (by decide) | refine fp_and (by decide) ?_)
  rw [g1] at w1
  refine call_of (w1) rfl (by simp) ?_
  try simp -dsimp
  try (first | exact fp_one (by decide) | refine fp_and (by decide) ?_)
  refine ⟨hi, ?_⟩
  have w2 := s_named (l.take i) e.1 (by rw [List.length_take]; omega)
  by_cases g2 : hasN (l.take i) e.1 = false
  case neg =>
    have hk := nmI_pos (Bool.not_eq_false _ ▸ g2)
    rw [cat_bad he (fun g => g2 g.h)]
    generalize nmI (l.take i) e.1 = k at *
    refine call_of (w2) rfl (by simp) ?_
    try simp -dsimp
    try (first | exact fp_one (by decide) | refine fp_and (by decide) ?_)
    intro h
    omega
  rw [nmI_neg g2] at w2
  refine call_of (w2) rfl (by simp) ?_
  try simp -dsimp
  try (first | exact fp_one (by decide) | refine fp_and (by decide) ?_)
  have w3 := s_isP e.2.1 e.2.2.1.1 e.2.2.1.2.1 e.2.2.1.2.2 e.2.2.2 (by omega)
  rw [show okP e.2.1 e.2.2.1.1 e.2.2.1.2.1 e.2.2.1.2.2 e.2.2.2 = okPV e.2 from rfl] at w3
  by_cases g3 : okPV e.2 = true
  case neg =>
    rw [Bool.eq_false_iff.2 g3] at w3
    rw [cat_bad he (fun g => g3 g.p)]
    refine call_of (w3) rfl (by simp) ?_
    try simp -dsimp
    try (first | exact fp_one (by decide) | refine fp_and (by decide) ?_)
  rw [g3] at w3
  refine call_of (w3) rfl (by simp) ?_
  try simp -dsimp
  try (first | exact fp_one (by decide) | refine fp_and (by decide) ?_)
  obtain ⟨c1, c2, c3, _⟩ := canP_spec g3
  have c4 := okPV_len c2
  refine call_of (c3) rfl (by simp) ?_
  try simp -dsimp
  try (first | exact fp_one (by decide) | refine fp_and (by decide) ?_)
  have w5 := s_same (canP e.2) e.2 (by omega)
  by_cases g4 : canP e.2 = e.2
  case neg =>
    rw [decide_eq_false g4] at w5
    rw [cat_bad he (fun g => g4 g.c)]
    refine call_of (w5) rfl (by simp) ?_
    try simp -dsimp
    try (first | exact fp_one (by decide) | refine fp_and (by decide) ?_)
  rw [decide_eq_true g4] at w5
  refine call_of (w5) rfl (by simp) ?_
  try simp -dsimp
  try (first | exact fp_one (by decide) | refine fp_and (by decide) ?_)
  have nx : (∀ p, 0 < i → l[i - 1]? = some p → ltP p.2 e.2 = true) → catI l (i + 1) := fun ho => catI_succ hc he ⟨g1, g2, g3, g4, ho⟩
  have okp : ∀ p, 0 < i → l[i - 1]? = some p → okPV p.2 = true := fun p h0 hp => (hc (i - 1) p (by omega) hp).p
  refine ⟨fun h0 => ⟨by rw [w64 (by omega) (by omega)]; omega, fun s f a b c lq hp => ?_⟩, fun h0 => ⟨i + 1, by rw [w64 (by omega) (by omega)]; simp, ⟨by omega, nx (fun p h1 _ => by omega)⟩, by omega⟩⟩
  rw [w64 (by omega) (by omega), show ((i : Int) - 1).toNat = i - 1 by omega] at hp
  obtain ⟨kk, w6, k1, _⟩ := s_cmpP (f, (a, b, c), lq) e.2 (okPV_cmpb (okp _ h0 hp) g3)
  refine call_of (w6) rfl (by simp) ?_
  try simp -dsimp
  try (first | exact fp_one (by decide) | refine fp_and (by decide) ?_)
  refine ⟨fun hk => ?_, fun hk => ⟨i + 1, by rw [w64 (by omega) (by omega)]; simp, ⟨by omega, nx (fun p _ hp' => ?_)⟩, by omega⟩⟩
  · exact cdec_false.1 (cat_bad he (fun g => by have := k1.2 (g.o _ h0 hp); omega))
  · rw [hp] at hp'
    cases hp'
    exact k1.1 hk
theorem s_sisCat (l : List En) (h : l.length ≤ 1048576) (hw : ∀ e ∈ l, e.1.size ≤ 1048576 ∧ e.2.2.2.length ≤ 1048576) : Sp Tryz.prog 9 [.v (ves l)] (vb (cdec (isCat l))) [] := by
  refine sp_of (m := no) mixed Tryz.func9 k9 ?_
  simp -dsimp [q]
  refine awp_it (true :: false :: false :: true :: []) (fun i : Nat => [(3, vi i)]) (fun i => []) (fun i => i ≤ l.length ∧ catI l i) (fun i => l.length - i) 0 ?_
  intro s0 e
  simp -dsimp at e
  subst e
  refine ⟨?_, ?_⟩
  · simp [catI]
  rintro i ⟨hi, hc⟩
  by_cases hlt : i < l.length
  case neg =>
    have : i = l.length := by omega
    subst this
    rw [cat_done hc]
    simp -dsimp
  obtain ⟨e, he⟩ : ∃ e, l[i]? = some e := ⟨_, List.getElem?_eq_getElem hlt⟩
  have hwe := hw e (List.mem_of_getElem? he)
  simp -dsimp [show ((i : Int) < l.length) by omega, -Prod.forall, -Prod.exists]
  intro e' he'
  rw [he] at he'
  cases he'
  have w1 := s_sisN e.1 (by omega)
  by_cases g1 : okN e.1 = true
  case neg =>
    rw [Bool.eq_false_iff.2 g1] at w1
    rw [cat_bad he (fun g => g1 g.n)]
    refine call_of (w1) rfl (by simp) ?_
    try simp -dsimp
    try (first | exact fp_one (by decide) | refine fp_and (by decide) ?_)
  rw [g1] at w1
  refine call_of (w1) rfl (by simp) ?_
  try simp -dsimp
  try (first | exact fp_one (by decide) | refine fp_and (by decide) ?_)
  have w2 := s_sidx l e.1 h
  have hni := nmI_at he
  by_cases g2 : hasN (l.take i) e.1 = false
  case neg =>
    rw [cat_bad he (fun g => g2 g.h)]
    have hk : ¬ nmI l e.1 = i := fun h => g2 (hni.1 h)
    generalize nmI l e.1 = k at *
    refine call_of (w2) rfl (by simp) ?_
    try simp -dsimp
    try (first | exact fp_one (by decide) | refine fp_and (by decide) ?_)
    exact fun h => absurd h hk
  rw [hni.2 g2] at w2
  refine call_of (w2) rfl (by simp) ?_
  try simp -dsimp
  try (first | exact fp_one (by decide) | refine fp_and (by decide) ?_)
  have w3 := s_sisP e.2.1 e.2.2.1.1 e.2.2.1.2.1 e.2.2.1.2.2 e.2.2.2 (by omega)
  rw [show okP e.2.1 e.2.2.1.1 e.2.2.1.2.1 e.2.2.1.2.2 e.2.2.2 = okPV e.2 from rfl] at w3
  by_cases g3 : okPV e.2 = true
  case neg =>
    rw [Bool.eq_false_iff.2 g3] at w3
    rw [cat_bad he (fun g => g3 g.p)]
    refine call_of (w3) rfl (by simp) ?_
    try simp -dsimp
    try (first | exact fp_one (by decide) | refine fp_and (by decide) ?_)
  rw [g3] at w3
  refine call_of (w3) rfl (by simp) ?_
  try simp -dsimp
  try (first | exact fp_one (by decide) | refine fp_and (by decide) ?_)
  obtain ⟨c1, c2, _, L, c3, c5⟩ := canP_spec g3
  have c4 := okPV_len c2
  refine call_of (c3) rfl (by simp) ?_
  try simp -dsimp
  try (first | exact fp_one (by decide) | refine fp_and (by decide) ?_)
  refine call_of (c5) rfl (by simp) ?_
  try simp -dsimp
  try (first | exact fp_one (by decide) | refine fp_and (by decide) ?_)
  have w5 := s_ssame2 (canP e.2) e.2 (by omega)
  by_cases g4 : canP e.2 = e.2
  case neg =>
    rw [decide_eq_false g4] at w5
    rw [cat_bad he (fun g => g4 g.c)]
    refine call_of (w5) rfl (by simp) ?_
    try simp -dsimp
    try (first | exact fp_one (by decide) | refine fp_and (by decide) ?_)
  rw [decide_eq_true g4] at w5
  refine call_of (w5) rfl (by simp) ?_
  try simp -dsimp
  try (first | exact fp_one (by decide) | refine fp_and (by decide) ?_)
  have nx : (∀ p, 0 < i → l[i - 1]? = some p → ltP p.2 e.2 = true) → catI l (i + 1) := fun ho => catI_succ hc he ⟨g1, g2, g3, g4, ho⟩
  have okp : ∀ p, 0 < i → l[i - 1]? = some p → okPV p.2 = true := fun p h0 hp => (hc (i - 1) p (by omega) hp).p
  refine ⟨fun h0 => ⟨by rw [w64 (by omega) (by omega)]; omega, fun s f a b c lq hp => ?_⟩, fun h0 => ⟨i + 1, by rw [w64 (by omega) (by omega)]; simp, ⟨by omega, nx (fun p h1 _ => by omega)⟩, by omega⟩⟩
  rw [w64 (by omega) (by omega), show ((i : Int) - 1).toNat = i - 1 by omega] at hp
  have w6 := s_slessP (f, (a, b, c), lq) e.2 (okPV_cmpb (okp _ h0 hp) g3)
  cases hb : ltP (f, (a, b, c), lq) e.2 with
  | false =>
    rw [hb] at w6
    have hbad := cat_bad he (fun g => by have := g.o _ h0 hp; rw [hb] at this; cases this)
    refine call_of (w6) rfl (by simp) ?_
    try simp -dsimp
    try (first | exact fp_one (by decide) | refine fp_and (by decide) ?_)
    exact cdec_false.1 hbad
  | true =>
    rw [hb] at w6
    refine call_of (w6) rfl (by simp) ?_
    try simp -dsimp
    try (first | exact fp_one (by decide) | refine fp_and (by decide) ?_)
    refine ⟨i + 1, by rw [w64 (by omega) (by omega)]; simp, ⟨by omega, nx (fun p _ hp' => ?_)⟩, by omega⟩
    rw [hp] at hp'
    cases hp'
    exact hb
end Go.Proofs.YtkpkhncnenhlaaaGreatDoorEv
namespace Go.Proofs.YtkpkhncnenhlaaaGreatDoorEv
open Go Go.Proofs
set_option maxRecDepth 10000
set_option maxHeartbeats 2000000
def hd4 (P : PV) : List Int := [P.1, P.2.1.1, P.2.1.2.1, P.2.1.2.2]
theorem hd4_inj {P Q : PV} (h : hd4 P = hd4 Q) : P.1 = Q.1 ∧ P.2.1 = Q.2.1 := by
  obtain ⟨f, ⟨a, b, c⟩, l⟩ := P
  obtain ⟨f', ⟨a', b', c'⟩, l'⟩ := Q
  simpa [hd4] using h
theorem ltP_hd (P Q : PV) : ltP P Q = if hd4 P = hd4 Q then lexLt P.2.2 Q.2.2 else lexLt (hd4 P) (hd4 Q) := lexLt_app rfl
theorem ok_len {P Q : PV} (h : okPV P = true) (k : okPV Q = true) (e : hd4 P = hd4 Q) : P.2.2.length = Q.2.2.length := (okPV_cmpb h k).1 (hd4_inj e).2
theorem ltP_trans' {P Q R : PV} (hP : okPV P = true) (hQ : okPV Q = true) (hR : okPV R = true) (h1 : ltP P Q = true) (h2 : ltP Q R = true) : ltP P R = true := by
  rw [ltP_hd] at h1 h2 ⊢
  by_cases e1 : hd4 P = hd4 Q
  · rw [if_pos e1] at h1
    by_cases e2 : hd4 Q = hd4 R
    · rw [if_pos e2] at h2
      rw [if_pos (e1.trans e2)]
      exact lexLt_trans (ok_len hP hQ e1) (ok_len hQ hR e2) h1 h2
    · rw [if_neg e2] at h2
      rw [if_neg (by rw [e1]; exact e2), e1]
      exact h2
  · rw [if_neg e1] at h1
    by_cases e2 : hd4 Q = hd4 R
    · rw [if_pos e2] at h2
      rw [← e2, if_neg e1]
      exact h1
    · rw [if_neg e2] at h2
      have h3 := lexLt_trans (xs := hd4 P) (ys := hd4 Q) (zs := hd4 R) rfl rfl h1 h2
      by_cases e3 : hd4 P = hd4 R
      · rw [e3, lexLt_irr] at h3; cases h3
      · rw [if_neg e3]; exact h3
def srtE (l : List En) : Prop := ∀ (i j : Nat) x y, i < j → l[i]? = some x → l[j]? = some y → ltP x.2 y.2 = true
theorem cat_srt {l : List En} (h : catI l l.length) : srtE l := by
  intro i j
  induction j with
  | zero => intro x y hij; omega
  | succ j ih =>
    intro x y hij hx hy
    have hyl := (List.getElem?_eq_some_iff.1 hy).1
    obtain ⟨z, hz⟩ : ∃ z, l[j]? = some z := ⟨_, List.getElem?_eq_getElem (by omega)⟩
    have o := (h (j + 1) y hyl hy).o z (by omega) hz
    rcases Nat.lt_succ_iff_lt_or_eq.1 hij with h1 | h1
    · exact ltP_trans' (h i x (by omega) hx).p (h j z (by omega) hz).p (h (j + 1) y hyl hy).p (ih x z h1 hx hz) o
    · subst h1
      rw [hx] at hz
      cases hz
      exact o
def plE (l : List En) (q : PV) : Nat := l.findIdx fun e => !ltP e.2 q
theorem plE_eq {l : List En} {q : PV} {k : Nat} (hk : k ≤ l.length) (h1 : ∀ (j : Nat) x, j < k → l[j]? = some x → ltP x.2 q = true) (h2 : ∀ x, l[k]? = some x → ltP x.2 q = false) : plE l q = k := by
  unfold plE
  by_cases e : k = l.length
  · rw [e, List.findIdx_eq_length]
    intro x hx
    obtain ⟨j, hj⟩ := List.getElem?_of_mem hx
    rw [h1 j x (by have := (List.getElem?_eq_some_iff.1 hj).1; omega) hj]
    rfl
  · refine (List.findIdx_eq (show k < l.length by omega)).2 ⟨?_, fun j hj => ?_⟩
    · rw [h2 _ (List.getElem?_eq_getElem (by omega))]; rfl
    · rw [h1 j _ hj (List.getElem?_eq_getElem (by omega))]; rfl
theorem mid_eq {lo hi : Nat} (h : lo + hi ≤ 4194304) : IntKind.i64.wrap ((IntKind.u64.wrap (IntKind.i64.wrap ((lo : Int) + hi))).fdiv (2 ^ min 1 IntKind.u64.bits)) = (((lo + hi) / 2 : Nat) : Int) := by
  have e1 : IntKind.u64.wrap ((lo : Int) + hi) = (lo : Int) + hi := by
    show ((lo : Int) + hi) % _ = _
    exact Int.emod_eq_of_lt (by omega) (by have : (lo : Int) + hi ≤ 4194304 := by omega
                                           exact Int.lt_of_le_of_lt this (by decide))
  rw [w64 (n := (lo : Int) + hi) (by omega) (by omega), e1, show (2 : Int) ^ min 1 IntKind.u64.bits = 2 by decide, Int.fdiv_eq_ediv_of_nonneg _ (by decide), w64 (by omega) (by omega)]
  omega
theorem s_place1 (e : En) (p : PV) (h : cmpb e.2 p) : ∃ k, Sp Tryz.prog 83 [aE e, aPV p] (vi k) [] ∧ (k < 0 ↔ ltP e.2 p = true) ∧ (k = 0 ↔ e.2 = p) := by
  obtain ⟨k, w, h1, h2⟩ := s_cmpP e.2 p h
  refine ⟨k, ?_, h1, h2⟩
  refine sp_of (m := no) mixed Tryz.func83 k83 ?_
  simp -dsimp [q]
  refine call_of (w) rfl (by simp) ?_
  try simp -dsimp
  try (first | exact fp_one (by decide) | refine fp_and (by decide) ?_)
def ltB (l : List En) (p : PV) (k : Nat) : Prop := ∀ (j : Nat) x, j < k → l[j]? = some x → ltP x.2 p = true
def geA (l : List En) (p : PV) (k : Nat) : Prop := ∀ (j : Nat) x, k ≤ j → l[j]? = some x → ltP x.2 p = false
theorem ltB_at {l : List En} {p : PV} (hs : srtE l) (hok : ∀ e ∈ l, okPV e.2 = true) (hp : okPV p = true) {k : Nat} {e : En} (he : l[k]? = some e) (h : ltP e.2 p = true) : ltB l p (k + 1) := fun j x hj hx => by
  rcases Nat.lt_succ_iff_lt_or_eq.1 hj with h1 | h1
  · exact ltP_trans' (hok x (List.mem_of_getElem? hx)) (hok e (List.mem_of_getElem? he)) hp (hs j k x e h1 hx he) h
  · subst h1
    rw [he] at hx
    cases hx
    exact h
theorem geA_at {l : List En} {p : PV} (hs : srtE l) (hok : ∀ e ∈ l, okPV e.2 = true) (hp : okPV p = true) {k : Nat} {e : En} (he : l[k]? = some e) (h : ltP e.2 p = false) : geA l p k := fun j x hj hx => by
  by_cases h1 : j = k
  · subst h1
    rw [he] at hx
    cases hx
    exact h
  · cases hq : ltP x.2 p with
    | false => rfl
    | true =>
      rw [ltP_trans' (hok e (List.mem_of_getElem? he)) (hok x (List.mem_of_getElem? hx)) hp (hs k j e x (by omega) he hx) hq] at h
      cases h
theorem fnd_dec {l : List En} {p : PV} {k : Nat} {e : En} (he : l[k]? = some e) : decide (∃ e, l[k]? = some e ∧ e.2 = p) = decide (e.2 = p) := by
  rw [Bool.eq_iff_iff, decide_eq_true_iff, decide_eq_true_iff]
  constructor
  · rintro ⟨e', he', h⟩
    rw [he] at he'
    cases he'
    exact h
  · exact fun h => ⟨e, he, h⟩
theorem fnd_no {l : List En} {p : PV} {k : Nat} (h : l.length ≤ k) : decide (∃ e, l[k]? = some e ∧ e.2 = p) = false := by
  refine decide_eq_false ?_
  rintro ⟨e, he, _⟩
  have := (List.getElem?_eq_some_iff.1 he).1
  omega
theorem s_bsE (l : List En) (p : PV) (hs : srtE l) (hl : l.length ≤ 1048576) (hok : ∀ e ∈ l, okPV e.2 = true) (hp : okPV p = true) : Sp Tryz.prog 82 [.v (ves l), aPV p, .fn 83 []] (.tu [vi (plE l p), vb (decide (∃ e, l[plE l p]? = some e ∧ e.2 = p))]) [] := by
  generalize hT : decide (∃ e, l[plE l p]? = some e ∧ e.2 = p) = T
  refine sp_of (m := no) mixed Tryz.func82 k82 ?_
  simp -dsimp [q]
  refine awp_it (true :: false :: true :: false :: true :: false :: false :: false :: true :: true :: true :: []) (fun s : Nat × Nat => [(9, vi s.1), (10, vi s.2)]) (fun s => []) (fun s => s.1 ≤ s.2 ∧ s.2 ≤ l.length ∧ ltB l p s.1 ∧ geA l p s.2) (fun s => s.2 - s.1) (0, l.length) ?_
  intro s0 e
  simp -dsimp at e
  subst e
  refine ⟨?_, ?_⟩
  · refine ⟨by simp, by simp, by simp, fun j x hj => by simp only at hj; omega, fun j x hj hx => ?_⟩
    have := (List.getElem?_eq_some_iff.1 hx).1
    simp only at hj
    omega
  rintro ⟨lo, hi⟩ ⟨k1, k2, k3, k4⟩
  simp only at k1 k2 k3 k4
  by_cases hlt : lo < hi
  case neg =>
    have hpl : plE l p = lo := plE_eq (by omega) k3 (fun x hx => k4 lo x (by omega) hx)
    rw [hpl] at hT ⊢
    simp -dsimp [show ¬ ((lo : Int) < hi) by omega, -Prod.forall, -Prod.exists]
    refine ⟨fun h1 => ⟨h1, fun e he => ?_⟩, fun h1 => ?_⟩
    · obtain ⟨kk, w, _, h2⟩ := s_place1 e p (okPV_cmpb (hok e (List.mem_of_getElem? he)) hp)
      refine call_of (w) rfl (by simp) ?_
      try simp -dsimp
      try (first | exact fp_one (by decide) | refine fp_and (by decide) ?_)
      rw [← hT, fnd_dec he, Bool.eq_iff_iff, decide_eq_true_iff, decide_eq_true_iff, h2]
    · rw [← hT]
      exact fnd_no h1
  have em := mid_eq (lo := lo) (hi := hi) (by omega)
  have hm1 : lo ≤ (lo + hi) / 2 ∧ (lo + hi) / 2 < hi := by omega
  generalize hmd : (lo + hi) / 2 = md at *
  simp -dsimp [show ((lo : Int) < hi) by omega, em, -Prod.forall, -Prod.exists]
  refine ⟨by omega, fun e he => ?_⟩
  have hoe := hok e (List.mem_of_getElem? he)
  obtain ⟨kk, w, h1, _⟩ := s_place1 e p (okPV_cmpb hoe hp)
  refine call_of (w) rfl (by simp) ?_
  try simp -dsimp
  try (first | exact fp_one (by decide) | refine fp_and (by decide) ?_)
  refine ⟨fun hk => ⟨md + 1, hi, ⟨by rw [w64 (by omega) (by omega)]; simp, rfl⟩, ⟨by omega, k2, ltB_at hs hok hp he (h1.1 hk), k4⟩, by omega⟩, fun hk => ⟨lo, md, ⟨rfl, rfl⟩, ⟨by omega, by omega, k3, geA_at hs hok hp he ?_⟩, by omega⟩⟩
  cases hb : ltP e.2 p with
  | false => rfl
  | true => have := h1.2 hb; omega
theorem s_splE (l : List En) (p : PV) (hl : l.length ≤ 1048576) (hok : ∀ e ∈ l, okPV e.2 = true) (hp : okPV p = true) : Sp Tryz.prog 45 [.v (ves l), aPV p] (vi (plE l p)) [] := by
  refine sp_of (m := no) mixed Tryz.func45 k45 ?_
  simp -dsimp [q]
  refine awp_it (true :: false :: false :: true :: false :: true :: []) (fun i : Nat => [(5, vi i)]) (fun i => []) (fun i => i ≤ l.length ∧ ltB l p i) (fun i => l.length - i) 0 ?_
  intro s0 e
  simp -dsimp at e
  subst e
  refine ⟨?_, ?_⟩
  · simp [ltB]
  rintro i ⟨hi, k3⟩
  simp -dsimp [-Prod.forall, -Prod.exists]
  refine ⟨fun h1 => ⟨h1, fun e he => ?_⟩, fun h1 => ?_⟩
  · have w := s_slessP e.2 p (okPV_cmpb (hok e (List.mem_of_getElem? he)) hp)
    cases hb : ltP e.2 p with
    | true =>
      rw [hb] at w
      refine call_of (w) rfl (by simp) ?_
      try simp -dsimp
      try (first | exact fp_one (by decide) | refine fp_and (by decide) ?_)
      refine ⟨i + 1, by rw [w64 (by omega) (by omega)]; simp, ⟨by omega, fun j x hj hx => ?_⟩, by omega⟩
      rcases Nat.lt_succ_iff_lt_or_eq.1 hj with h2 | h2
      · exact k3 j x h2 hx
      · subst h2
        rw [he] at hx
        cases hx
        exact hb
    | false =>
      rw [hb] at w
      have hpl : plE l p = i := plE_eq (by omega) k3 (fun x hx => by rw [he] at hx; cases hx; exact hb)
      rw [hpl]
      refine call_of (w) rfl (by simp) ?_
      try simp -dsimp
      try (first | exact fp_one (by decide) | refine fp_and (by decide) ?_)
  · have hpl : plE l p = i := plE_eq hi k3 (fun x hx => by have := (List.getElem?_eq_some_iff.1 hx).1; omega)
    rw [hpl]
/-! finding -/
theorem s_find1 (l : List En) (P : PV) (hl : l.length ≤ 1048576) (hP : P.2.2.length ≤ 1048576) (hw : ∀ e ∈ l, e.1.size ≤ 1048576 ∧ e.2.2.2.length ≤ 1048576) : ∃ s k, Sp Tryz.prog 14 [.v (ves l), aPV P] (.tu [aS s, vi k]) [] ∧ Sp Tryz.prog 16 [.v (ves l), aPV P] (.tu [aS s, vi k]) [] := by
  have w1 := s_sisCat l hl hw
  have w2 := s_isCat l hl hw
  have w3 := s_sisP P.1 P.2.1.1 P.2.1.2.1 P.2.1.2.2 P.2.2 hP
  have w4 := s_isP P.1 P.2.1.1 P.2.1.2.1 P.2.1.2.2 P.2.2 hP
  rw [show okP P.1 P.2.1.1 P.2.1.2.1 P.2.1.2.2 P.2.2 = okPV P from rfl] at w3 w4
  by_cases hc : isCat l
  case neg =>
    rw [cdec_f hc] at w1 w2
    refine ⟨⟨#[]⟩, 1, ?_, ?_⟩
    · refine sp_of (m := no) mixed Tryz.func14 k14 ?_
      simp -dsimp [q]
      refine call_of (w1) rfl (by simp) ?_
      try simp -dsimp
      try (first | exact fp_one (by decide) | refine fp_and (by decide) ?_)
    · refine sp_of (m := no) mixed Tryz.func16 k16 ?_
      simp -dsimp [q]
      refine call_of (w2) rfl (by simp) ?_
      try simp -dsimp
      try (first | exact fp_one (by decide) | refine fp_and (by decide) ?_)
  rw [cdec_t hc] at w1 w2
  by_cases hp : okPV P = true
  case neg =>
    rw [Bool.eq_false_iff.2 hp] at w3 w4
    refine ⟨⟨#[]⟩, 1, ?_, ?_⟩
    · refine sp_of (m := no) mixed Tryz.func14 k14 ?_
      simp -dsimp [q]
      refine call_of (w1) rfl (by simp) ?_
      try simp -dsimp
      try (first | exact fp_one (by decide) | refine fp_and (by decide) ?_)
      refine call_of (w3) rfl (by simp) ?_
      try simp -dsimp
      try (first | exact fp_one (by decide) | refine fp_and (by decide) ?_)
    · refine sp_of (m := no) mixed Tryz.func16 k16 ?_
      simp -dsimp [q]
      refine call_of (w2) rfl (by simp) ?_
      try simp -dsimp
      try (first | exact fp_one (by decide) | refine fp_and (by decide) ?_)
      refine call_of (w4) rfl (by simp) ?_
      try simp -dsimp
      try (first | exact fp_one (by decide) | refine fp_and (by decide) ?_)
  rw [hp] at w3 w4
  obtain ⟨_, c2, c3, L, c4, c5⟩ := canP_spec hp
  have hok : ∀ e ∈ l, okPV e.2 = true := fun e he => by
    obtain ⟨j, hj⟩ := List.getElem?_of_mem he
    exact (hc.2 j e (List.getElem?_eq_some_iff.1 hj).1 hj).p
  have w5 := s_splE l (canP P) hl hok c2
  have w6 := s_bsE l (canP P) (cat_srt hc.2) hl hok c2
  generalize canP P = Q at *
  have hkl : plE l Q ≤ l.length := List.findIdx_le_length
  generalize plE l Q = k at *
  have w7 : Sp Tryz.prog 48 [.v (ves l), aPV Q] (.tu [vi k, vb (decide (∃ e, l[k]? = some e ∧ e.2 = Q))]) [] := by
    generalize decide (∃ e, l[k]? = some e ∧ e.2 = Q) = T at *
    refine sp_of (m := no) mixed Tryz.func48 k48 ?_
    simp -dsimp [q]
    refine call_of (w6) rfl (by simp) ?_
    try simp -dsimp
    try (first | exact fp_one (by decide) | refine fp_and (by decide) ?_)
  clear w6
  have hQ := okPV_len c2
  by_cases hlt : k < l.length
  case neg =>
    rw [fnd_no (by omega)] at w7
    have e : k = l.length := by omega
    subst e
    refine ⟨⟨#[]⟩, 4, ?_, ?_⟩
    · refine sp_of (m := no) mixed Tryz.func14 k14 ?_
      simp -dsimp [q]
      refine call_of (w1) rfl (by simp) ?_
      try simp -dsimp
      try (first | exact fp_one (by decide) | refine fp_and (by decide) ?_)
      refine call_of (w3) rfl (by simp) ?_
      try simp -dsimp
      try (first | exact fp_one (by decide) | refine fp_and (by decide) ?_)
      refine call_of (c4) rfl (by simp) ?_
      try simp -dsimp
      try (first | exact fp_one (by decide) | refine fp_and (by decide) ?_)
      refine call_of (c5) rfl (by simp) ?_
      try simp -dsimp
      try (first | exact fp_one (by decide) | refine fp_and (by decide) ?_)
      refine call_of (w5) rfl (by simp) ?_
      try simp -dsimp
      try (first | exact fp_one (by decide) | refine fp_and (by decide) ?_)
      try decide
    · refine sp_of (m := no) mixed Tryz.func16 k16 ?_
      simp -dsimp [q]
      refine call_of (w2) rfl (by simp) ?_
      try simp -dsimp
      try (first | exact fp_one (by decide) | refine fp_and (by decide) ?_)
      refine call_of (w4) rfl (by simp) ?_
      try simp -dsimp
      try (first | exact fp_one (by decide) | refine fp_and (by decide) ?_)
      refine call_of (c3) rfl (by simp) ?_
      try simp -dsimp
      try (first | exact fp_one (by decide) | refine fp_and (by decide) ?_)
      refine call_of (w7) rfl (by simp) ?_
      try simp -dsimp
      try (first | exact fp_one (by decide) | refine fp_and (by decide) ?_)
  obtain ⟨e, he⟩ : ∃ e, l[k]? = some e := ⟨_, List.getElem?_eq_getElem hlt⟩
  have hek := okPV_len (hok e (List.mem_of_getElem? he))
  rw [fnd_dec he] at w7
  have w8 := s_ssame2 e.2 Q (by omega)
  cases hb : decide (e.2 = Q) with
  | false =>
    rw [hb] at w7 w8
    refine ⟨⟨#[]⟩, 4, ?_, ?_⟩
    · refine sp_of (m := no) mixed Tryz.func14 k14 ?_
      simp -dsimp [q]
      refine call_of (w1) rfl (by simp) ?_
      try simp -dsimp
      try (first | exact fp_one (by decide) | refine fp_and (by decide) ?_)
      refine call_of (w3) rfl (by simp) ?_
      try simp -dsimp
      try (first | exact fp_one (by decide) | refine fp_and (by decide) ?_)
      refine call_of (c4) rfl (by simp) ?_
      try simp -dsimp
      try (first | exact fp_one (by decide) | refine fp_and (by decide) ?_)
      refine call_of (c5) rfl (by simp) ?_
      try simp -dsimp
      try (first | exact fp_one (by decide) | refine fp_and (by decide) ?_)
      refine call_of (w5) rfl (by simp) ?_
      try simp -dsimp
      try (first | exact fp_one (by decide) | refine fp_and (by decide) ?_)
      intro _
      refine ⟨hlt, fun s f a b c lq h' => ?_⟩
      rw [he] at h'
      cases h'
      refine call_of (w8) rfl (by simp) ?_
      try simp -dsimp
      try (first | exact fp_one (by decide) | refine fp_and (by decide) ?_)
    · refine sp_of (m := no) mixed Tryz.func16 k16 ?_
      simp -dsimp [q]
      refine call_of (w2) rfl (by simp) ?_
      try simp -dsimp
      try (first | exact fp_one (by decide) | refine fp_and (by decide) ?_)
      refine call_of (w4) rfl (by simp) ?_
      try simp -dsimp
      try (first | exact fp_one (by decide) | refine fp_and (by decide) ?_)
      refine call_of (c3) rfl (by simp) ?_
      try simp -dsimp
      try (first | exact fp_one (by decide) | refine fp_and (by decide) ?_)
      refine call_of (w7) rfl (by simp) ?_
      try simp -dsimp
      try (first | exact fp_one (by decide) | refine fp_and (by decide) ?_)
  | true =>
    rw [hb] at w7 w8
    refine ⟨e.1, 0, ?_, ?_⟩
    · refine sp_of (m := no) mixed Tryz.func14 k14 ?_
      simp -dsimp [q]
      refine call_of (w1) rfl (by simp) ?_
      try simp -dsimp
      try (first | exact fp_one (by decide) | refine fp_and (by decide) ?_)
      refine call_of (w3) rfl (by simp) ?_
      try simp -dsimp
      try (first | exact fp_one (by decide) | refine fp_and (by decide) ?_)
      refine call_of (c4) rfl (by simp) ?_
      try simp -dsimp
      try (first | exact fp_one (by decide) | refine fp_and (by decide) ?_)
      refine call_of (c5) rfl (by simp) ?_
      try simp -dsimp
      try (first | exact fp_one (by decide) | refine fp_and (by decide) ?_)
      refine call_of (w5) rfl (by simp) ?_
      try simp -dsimp
      try (first | exact fp_one (by decide) | refine fp_and (by decide) ?_)
      refine ⟨fun _ => ⟨hlt, fun s f a b c lq h' => ?_⟩, fun h => by omega⟩
      rw [he] at h'
      cases h'
      refine call_of (w8) rfl (by simp) ?_
      try simp -dsimp
      try (first | exact fp_one (by decide) | refine fp_and (by decide) ?_)
      refine ⟨hlt, fun s2 f2 a2 b2 c2 l2 h2 => ?_⟩
      rw [he] at h2
      cases h2
      rfl
    · refine sp_of (m := no) mixed Tryz.func16 k16 ?_
      simp -dsimp [q]
      refine call_of (w2) rfl (by simp) ?_
      try simp -dsimp
      try (first | exact fp_one (by decide) | refine fp_and (by decide) ?_)
      refine call_of (w4) rfl (by simp) ?_
      try simp -dsimp
      try (first | exact fp_one (by decide) | refine fp_and (by decide) ?_)
      refine call_of (c3) rfl (by simp) ?_
      try simp -dsimp
      try (first | exact fp_one (by decide) | refine fp_and (by decide) ?_)
      refine call_of (w7) rfl (by simp) ?_
      try simp -dsimp
      try (first | exact fp_one (by decide) | refine fp_and (by decide) ?_)
      refine ⟨hlt, fun s2 f2 a2 b2 c2 l2 h2 => ?_⟩
      rw [he] at h2
      cases h2
      rfl
end Go.Proofs.YtkpkhncnenhlaaaGreatDoorEv
namespace Go.Proofs.YtkpkhncnenhlaaaGreatDoorEv
open Go Go.Proofs
set_option maxRecDepth 10000
set_option maxHeartbeats 2000000
theorem law_FnExactFindEntry (a0 : List ((ByteArray × (Int × (Int × Int × Int) × List (Int))))) (a1_0 : Int) (a1_1_0 : Int) (a1_1_1 : Int) (a1_1_2 : Int) (a1_2 : List (Int)) (wf0 : (a0.length ≤ maxLen ∧ ∀ y ∈ a0, (y.1.size ≤ maxLen ∧ ((Lit.int .i64 y.2.1).wf = true ∧ ((Lit.int .i64 y.2.2.1.1).wf = true ∧ (Lit.int .i64 y.2.2.1.2.1).wf = true ∧ (Lit.int .i64 y.2.2.1.2.2).wf = true) ∧ (y.2.2.2.length ≤ maxLen ∧ ∀ z ∈ y.2.2.2, (Lit.int .i64 z).wf = true))))) (wf1 : ((Lit.int .i64 a1_0).wf = true ∧ ((Lit.int .i64 a1_1_0).wf = true ∧ (Lit.int .i64 a1_1_1).wf = true ∧ (Lit.int .i64 a1_1_2).wf = true) ∧ (a1_2.length ≤ maxLen ∧ ∀ y ∈ a1_2, (Lit.int .i64 y).wf = true))) : Sp Tryz.prog 4 [.v (.sl 6 (a0.map fun y => .ag [.str y.1, .int .i64 y.2.1, .int .i64 y.2.2.1.1, .int .i64 y.2.2.1.2.1, .int .i64 y.2.2.1.2.2, .sl 0 (y.2.2.2.map fun z => .int .i64 z)])), .v (.ag [.int .i64 a1_0, .int .i64 a1_1_0, .int .i64 a1_1_1, .int .i64 a1_1_2, .sl 0 (a1_2.map fun y => .int .i64 y)])] (.v (.bool true)) [] := by
  have hl := wf0.1
  have hw : ∀ e ∈ (a0 : List En), wfE e := fun e he => ⟨(wf0.2 e he).1, (wf0.2 e he).2.2.2.1⟩
  have hl1 := wf1.2.2.1
  clear wf0 wf1
  generalize a0 = l at *
  generalize a1_2 = k at *
  generalize a1_1_2 = c at *
  generalize a1_1_1 = b at *
  generalize a1_1_0 = a at *
  generalize a1_0 = f at *
  show Sp Tryz.prog 4 [.v (ves l), aP f a b c k] (vb true) []
  refine sp_of (m := no) mixed Tryz.func4 k4 ?_
  simp -dsimp [q]
  refine call_of (s_szES l 1048576 hl hw (by omega)) rfl (by simp) ?_
  try simp -dsimp
  try (first | exact fp_one (by decide) | refine fp_and (by decide) ?_)
  by_cases hn : (1048576 : Int) < l.length
  · rw [if_pos hn]
    simp
  rw [if_neg hn]
  intro hs
  have hle := szF_le l (1048576 - l.length) (by omega) hs
  have hc : l.length ≤ 1048576 := by omega
  have he : ∀ e ∈ l, e.1.size ≤ 1048576 ∧ e.2.2.2.length ≤ 1048576 := fun e h => by have := hle e h; omega
  have he2 : ∀ e ∈ l, e.2.2.2.length ≤ 1048576 := fun e h => (he e h).2
  have hr : ∀ (l : List En) (n : Int), 0 ≤ n → 0 ≤ szF n l → szF n l ≤ n := by
    intro l
    induction l with
    | nil => intro n _ _; exact Int.le_refl _
    | cons x l ih =>
      intro n h0 h1
      rw [szF_cons] at h1 ⊢
      by_cases hx : szE n x < 0
      · rw [if_pos hx] at h1; omega
      · rw [if_neg hx] at h1 ⊢
        have q1 := szE_le hx
        have := ih _ q1.1 h1
        omega
  have hr1 := hr l _ (by omega) hs
  generalize szF (1048576 - l.length) l = r at *
  clear hle hw hr
  refine call_of (s_szP f a b c k r hl1 ⟨hs, by omega⟩) rfl (by simp) ?_
  try simp -dsimp
  try (first | exact fp_one (by decide) | refine fp_and (by decide) ?_)
  by_cases hk : r < k.length
  · rw [if_pos hk]
    simp
  rw [if_neg hk]
  intro _
  have hk1 : k.length ≤ 1048576 := by omega
  obtain ⟨s, n, w1, w2⟩ := s_find1 l (f, (a, b, c), k) hc hk1 he
  repeat ((first | refine call_of (s_toES l hc he2) rfl (by simp) ?_ | refine call_of (s_toP' f a b c k hk1) rfl (by simp) ?_ | refine call_of (w1) rfl (by simp) ?_ | refine call_of (w2) rfl (by simp) ?_ | refine call_of (s_eqES l l hc he2) rfl (by simp) ?_ | refine call_of (s_eqP f a b c k f a b c k hk1) rfl (by simp) ?_ | exact fp_one (by decide) | refine fp_and (by decide) ?_ | refine br_l (by omega) (by omega) ?_ | refine br_r (by omega) (by omega) ?_ | refine br_p (by omega) (by omega) ?_ | refine br_q (by omega) (by omega) ?_); try simp -dsimp)
end Go.Proofs.YtkpkhncnenhlaaaGreatDoorEv
namespace Go.Proofs.YtkpkhncnenhlaaaGreatDoorEv
open Go Go.ChangeShapes Go.WideShapes Go.RowKit Go.Deep

abbrev below (W : World) : Nat → Prop := fun b => b < W.heap.size
def OpC {α : Type} (P : Program) (t : TypeId) (encs : α → List V) (wf : α → Prop) : Prop :=
  ∀ (H : Type) (enc : TypeId × Value → H) (W : World) (spare : Nat → Bool) (held : Bool) (fuel : Nat) (cs : List Value) (x : DataW H × List MemPlace),
    DataW.trod enc P W 0 spare held fuel t cs = some x → ∃ a, RepL (below W) W (encs a) cs ∧ wf a
theorem opc_int {P : Program} {t : TypeId} {k : IntKind} (hu : P.underlying t = some (.int k)) : OpC P t (fun n => [V.int k n]) (fun n => (Lit.int k n).wf = true) := by
  intro H enc W spare held fuel cs x h
  obtain ⟨n, rfl, _, hw⟩ := DataW.trod_int hu h
  exact ⟨n, ⟨_, [], rfl, rfl, rfl, rfl⟩, hw⟩
theorem opc_bool {P : Program} {t : TypeId} (hu : P.underlying t = some .bool) : OpC P t (fun b => [V.bool b]) (fun _ => True) := by
  intro H enc W spare held fuel cs x h
  obtain ⟨n, rfl, _⟩ := DataW.trod_bool hu h
  exact ⟨n, ⟨_, [], rfl, rfl, rfl, rfl⟩, trivial⟩
theorem opc_string {P : Program} {t : TypeId} (hu : P.underlying t = some .string) : OpC P t (fun s => [V.str s]) (fun s => s.size ≤ maxLen) := by
  intro H enc W spare held fuel cs x h
  obtain ⟨n, rfl, _, hs⟩ := DataW.trod_string hu h
  exact ⟨n, ⟨_, [], rfl, rfl, rfl, rfl⟩, hs⟩
theorem list_of {α : Type} {n : Nat} {p : Nat → α → Prop} (h : ∀ i, i < n → ∃ x, p i x) : ∃ l : List α, l.length = n ∧ ∀ i (hi : i < l.length), p i l[i] := by
  induction n with
  | zero => exact ⟨[], rfl, fun i hi => absurd hi (Nat.not_lt_zero _)⟩
  | succ n ih =>
    obtain ⟨l, hl, hp⟩ := ih (fun i hi => h i (Nat.lt_succ_of_lt hi))
    obtain ⟨x, hx⟩ := h n (Nat.lt_succ_self n)
    refine ⟨l ++ [x], by simp [hl], fun i hi => ?_⟩
    by_cases e : i < l.length
    · rw [List.getElem_append_left e]; exact hp i e
    · have : i = n := by simp at hi; omega
      subst this
      rw [List.getElem_append_right (by omega)]
      simpa [hl] using hx
def mkE (k : Nat) (cs : List V) : V := if k = 0 then cs.headD default else .ag cs
theorem repAt_of {S : Nat → Prop} {w : World} {Ad : Option Addr} {e : Nat} : ∀ (xs : List V) (i : Nat), (∀ j x, xs[j]? = some x → ∃ b u, Ad = some b ∧ S b.block ∧ Rep S w x u ∧ u.cells.size = cz e ∧ x.isAg = (e != 0) ∧ ∀ (k : Nat) y, u.cells[k]? = some y → w.cell? (b.add ((i + j) * cz e + k)) = some y) → RepAt S w Ad e i xs
  | [], _, _ => trivial
  | x :: xs, i, h => by
    refine ⟨by simpa using h 0 x rfl, repAt_of xs (i + 1) (fun j y hy => ?_)⟩
    obtain ⟨b, u, h1, h2, h3, h4, h5, h6⟩ := h (j + 1) y (by simpa using hy)
    exact ⟨b, u, h1, h2, h3, h4, h5, fun k z hz => by rw [show i + 1 + j = i + (j + 1) by omega]; exact h6 k z hz⟩
theorem mkE_rep {S : Nat → Prop} {w : World} {k : Nat} {ds : List V} {cs : List Value} (h : RepL S w ds cs) (hl : cs.length = cz k) : ∃ u, Rep S w (mkE k ds) u ∧ u.cells.toList = cs ∧ (mkE k ds).isAg = (k != 0) := by
  unfold mkE
  by_cases hk : k = 0
  · subst hk
    rw [if_pos rfl]
    match ds, cs, h, hl with
    | [d], [c], ⟨u, us', h1, h2, h3, h4⟩, _ =>
      cases h1
      have := h3.cellsNe h2
      exact ⟨c, h3, by rw [this.2], h2⟩
    | [], [], _, hl => cases hl
    | _ :: _ :: _, [], h, _ => obtain ⟨_, _, h1, _⟩ := h; cases h1
    | [_], [], h, _ => obtain ⟨_, _, h1, _⟩ := h; cases h1
    | [_], _ :: _ :: _, _, hl => cases hl
    | [], _ :: _, h, _ => simp [RepL] at h
    | _ :: _ :: _, [_], h, _ => obtain ⟨_, _, h1, _, _, _, _, h2, _⟩ := h; cases h1; cases h2
    | _ :: _ :: _, _ :: _ :: _, _, hl => cases hl
  · rw [if_neg hk]
    exact ⟨.agg cs.toArray, ⟨cs, rfl, h⟩, by simp [Value.cells], by simp [V.isAg, hk]⟩
theorem opc_slice {α : Type} {P : Program} {t e : TypeId} {k : Nat} {encs : α → List V} {wf : α → Prop} (hu : P.underlying t = some (.slice e)) (hk : kindOf P e = some k) (h : OpC P e encs wf) :
    OpC P t (fun l : List α => [V.sl k (l.map fun a => mkE k (encs a))]) (fun l => l.length ≤ maxLen ∧ ∀ x ∈ l, wf x) := by
  intro H enc W spare held fuel cs x hx
  have hsz : P.cellsOf e = cz k := by
    obtain ⟨_, i, _, h1, h2, _⟩ := kindOf_spec hk
    simp [Program.cellsOf, h1, h2]
  rcases open_slice hu hx with ⟨rfl, _⟩ | ⟨a, len, cap, m, n, D, Pl, rfl, _, hl, hm, hmm, _, hel⟩
  · exact ⟨[], ⟨_, [], rfl, rfl, ⟨none, 0, rfl, Nat.le_refl _, Nat.zero_le _, trivial⟩, rfl⟩, Nat.zero_le _, fun x hx => absurd hx (by simp)⟩
  · have hle : len ≤ m := by rw [hmm]; split <;> omega
    obtain ⟨l, hlen, hp⟩ := list_of (p := fun i y => ∃ cs', W.cells? 0 (a.add (i * P.cellsOf e)) (P.cellsOf e) = some cs' ∧ RepL (below W) W (encs y) cs' ∧ wf y) (n := len) (fun i hi => by
      obtain ⟨cs', h1, h2⟩ := hel i (by omega)
      obtain ⟨y, hK, hw⟩ := h H enc W spare held n cs' _ h2
      exact ⟨y, cs', h1, hK, hw⟩)
    subst hlen
    refine ⟨l, ⟨_, [], rfl, rfl, ⟨some a, cap, by simp, by simpa using hl, hm, repAt_of _ 0 (fun j x hj => ?_)⟩, rfl⟩, Nat.le_trans hl hm, fun y hy => ?_⟩
    · simp only [List.getElem?_map, Option.map_eq_some_iff] at hj
      obtain ⟨y, hj, rfl⟩ := hj
      obtain ⟨hj', rfl⟩ := List.getElem?_eq_some_iff.1 hj
      obtain ⟨cs', h1, hK, _⟩ := hp j hj'
      obtain ⟨_, hcl, hcell⟩ := World.cells?_some h1
      rw [hsz] at hcl hcell
      obtain ⟨u, h2, h3, h4⟩ := mkE_rep hK hcl
      have hus : u.cells.size = cz k := by rw [← hcl, ← h3]; simp
      have cell : ∀ (i : Nat) y, u.cells[i]? = some y → W.cell? (a.add (j * cz k + i)) = some y := by
        intro i y hy
        have hi : i < cz k := by have := (Array.getElem?_eq_some_iff.1 hy).1; omega
        have := hcell i hi
        rw [Go.Deep.add_add] at this
        rw [this, ← h3]
        simpa using hy
      refine ⟨a, u, rfl, ?_, h2, hus, h4, fun i y hy => by simpa using cell i y hy⟩
      have h0 : 0 < u.cells.size := by rw [hus]; exact cz_pos k
      have := World.block_lt_of_cell? W _ (cell 0 _ (Array.getElem?_eq_getElem h0))
      rwa [add_block] at this
    · obtain ⟨j, hj, rfl⟩ := List.mem_iff_getElem.1 hy
      obtain ⟨_, _, _, hw⟩ := hp j hj
      exact hw
theorem RepL.append {S : Nat → Prop} {w : World} : ∀ {az bs : List V} {us vs : List Value}, RepL S w az us → RepL S w bs vs → RepL S w (az ++ bs) (us ++ vs)
  | [], _, us, _, h, k => by simp only [RepL] at h; subst h; exact k
  | a :: az, _, us, vs, ⟨u, us', h1, h2, h3, h4⟩, k => by subst h1; exact ⟨u, us' ++ vs, rfl, h2, h3, h4.append k⟩
/-- The fields of a struct, from a place on. -/
def OpF {α : Type} (P : Program) (fs : List Field) (off n : Nat) (encs : α → List V) (wf : α → Prop) : Prop :=
  ∀ (H : Type) (enc : TypeId × Value → H) (W : World) (spare : Nat → Bool) (held : Bool) (fuel : Nat) (cs : List Value), cs.length = off + n →
    (∀ f ∈ fs, ∃ y, DataW.trod enc P W 0 spare held fuel f.type ((cs.drop f.offset).take (P.cellsOf f.type)) = some y) → ∃ a, RepL (below W) W (encs a) (cs.drop off) ∧ wf a
theorem opf_one {α : Type} {P : Program} {f : Field} {off n : Nat} {encs : α → List V} {wf : α → Prop} (ho : f.offset = off) (hc : P.cellsOf f.type = n) (h : OpC P f.type encs wf) : OpF P [f] off n encs wf := by
  intro H enc W spare held fuel cs hl hf
  obtain ⟨y, hy⟩ := hf f (by simp)
  rw [ho, hc, List.take_of_length_le (by rw [List.length_drop]; omega)] at hy
  exact h H enc W spare held fuel _ _ hy
theorem opf_cons {α β : Type} {P : Program} {f : Field} {fs : List Field} {off n m : Nat} {encs : α → List V} {encs1 : β → List V} {wf : α → Prop} {wf1 : β → Prop} (ho : f.offset = off) (hc : P.cellsOf f.type = n) (h : OpC P f.type encs wf) (h1 : OpF P fs (off + n) m encs1 wf1) :
    OpF P (f :: fs) off (n + m) (fun a : α × β => encs a.1 ++ encs1 a.2) (fun a => wf a.1 ∧ wf1 a.2) := by
  intro H enc W spare held fuel cs hl hf
  obtain ⟨y, hy⟩ := hf f (by simp)
  rw [ho, hc] at hy
  obtain ⟨a, hK, hw⟩ := h H enc W spare held fuel _ _ hy
  obtain ⟨b, hK1, hw1⟩ := h1 H enc W spare held fuel cs (by omega) (fun g hg => hf g (by simp [hg]))
  refine ⟨(a, b), ?_, hw, hw1⟩
  have := hK.append hK1
  rwa [← List.drop_drop, List.take_append_drop] at this
theorem opc_struct {α : Type} {P : Program} {t : TypeId} {fs : Array Field} {n : Nat} {encs : α → List V} {wf : α → Prop} (hu : P.underlying t = some (.struct fs)) (hc : P.cellsOf t = n) (h : OpF P fs.toList 0 n encs wf) : OpC P t encs wf := by
  intro H enc W spare held fuel cs x hx
  obtain ⟨xs, m, _, _, hl, hlen, hf⟩ := DataW.trod_struct hu hx
  have := h H enc W spare held m cs (by omega) (fun f hf' => by
    obtain ⟨i, hi, rfl⟩ := List.mem_iff_getElem.1 hf'
    have h2 := hf i fs.toList[i] (by simp at hi ⊢)
    rw [List.getElem?_eq_getElem (by simp at hi; omega)] at h2
    exact ⟨_, h2⟩)
  simpa using this
theorem agg_of {P : Program} {W : World} {r : Reach} {base : Nat} {t : TypeId} {fs : Array Field} {v : Value} (hu : P.underlying t = some (.struct fs)) (hv : Value.okWide P W r base t v) : ∃ cs : Array Value, v = .agg cs := by
  obtain ⟨cs, rfl, _⟩ := okWide_struct hu hv
  exact ⟨cs, rfl⟩
/-- A law's call comes back with true, and what was there is there. -/
theorem law_calls {P : Program} {f : Nat} {az : List A} (h : Sp P f az (.v (.bool true)) []) (W : World) (hT : Tbl W (fun _ => False) (below W)) (us : List Value) (hus : ARs (fun _ => none) (fun _ => (0, 0)) (below W) W az us) :
    Calls P f us.toArray W fun e w' => e = .returned (.bool true) ∧ Below W.heap.size W w' := by
  have R0 : Rl W (fun _ => False) (below W) (fun i => ([] : List Ck)[i]?) (fun _ => (0, 0)) (below W) W :=
    ⟨hT, rfl, rfl, rfl, Nat.le_refl _, fun _ _ _ => rfl, fun _ h => h, fun _ h => .inl h, fun _ h => h, fun i => trivial, fun i c hc => (by cases hc), fun i j c d hc => (by cases hc)⟩
  refine (h.2 (below W) W us (fun _ => False) (fun _ => (0, 0)) R0 hus).mono ?_
  rintro e w' ⟨u, S', μ', rfl, R, _, hu⟩
  have : u = .bool true := hu
  exact ⟨by rw [this], R.os, R.tape, R.output, R.size, fun k hk => R.keep k hk (fun h => h)⟩
theorem ar_agg {S : Nat → Prop} {w : World} {ds : List V} {cs : Array Value} (h : RepL S w ds cs.toList) : AR (fun _ => none) (fun _ => (0, 0)) S w (.v (.ag ds)) (.agg cs) := ⟨cs.toList, by simp, h⟩
theorem ar_one {S : Nat → Prop} {w : World} {d : V} {v : Value} (h : RepL S w [d] [v]) : AR (fun _ => none) (fun _ => (0, 0)) S w (.v d) v := by
  obtain ⟨u, us', h1, h2, h3, h4⟩ := h
  cases h1
  exact h3
end Go.Proofs.YtkpkhncnenhlaaaGreatDoorEv
