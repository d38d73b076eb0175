/- What the code computes, and what it means: part 4 of the proof of FnExactIsCatalogue. No condition of its own. -/
import Derived.Deep.Slices
import Derived.WalkKit
import Derived.OpenShut
import Derived.ShutString
import Derived.ChangeOld
import Derived.SizedLaws
import Derived.Test.YtkpkhncnenhlaaaGreatDoorCXIsCatalogue3
namespace Go.Proofs.YtkpkhncnenhlaaaGreatDoorEv
open Go Go.Proofs
set_option maxRecDepth 10000
set_option maxHeartbeats 2000000
def isAz (b : UInt8) : Bool := List.contains letrs.data.toList b
theorem isAz_nat : ∀ n, n < 256 → (isAz (UInt8.ofNat n) = true ↔ 97 ≤ n ∧ n ≤ 122) := by
  have h : (List.range 256).all (fun n => isAz (UInt8.ofNat n) == decide (97 ≤ n ∧ n ≤ 122)) = true := by decide +kernel
  intro n hn
  have := List.all_eq_true.1 h n (List.mem_range.2 hn)
  rw [beq_iff_eq] at this
  rw [this, decide_eq_true_iff]
theorem isAz_iff (b : UInt8) : isAz b = true ↔ 97 ≤ b.toNat ∧ b.toNat ≤ 122 := by
  have := isAz_nat b.toNat b.toNat_lt
  rwa [UInt8.ofNat_toNat] at this
theorem ba_get (s : ByteArray) (n : Nat) : s[n]? = s.data.toList[n]? := by
  by_cases h : n < s.size
  · rw [Lib.data_getElem? s n h, getElem?_pos s n h]
  · rw [getElem?_neg s n h, List.getElem?_eq_none (by rw [← Lib.size_eq]; omega)]
@[simp] theorem fA_ba {s : ByteArray} {n : Nat} {K : UInt8 → Prop} : fA (s[n]?) K = ∀ a, s.data[n]? = some a → K a := by
  rw [ba_get, Array.getElem?_toList]
  rfl
theorem dw_nil (p : UInt8 → Bool) : ∀ l : List UInt8, l.dropWhile p = [] ↔ l.all p = true
  | [] => by simp
  | x :: l => by
    cases h : p x
    · rw [List.dropWhile_cons_of_neg (by rw [h]; simp)]; simp [h]
    · rw [List.dropWhile_cons_of_pos h, dw_nil p l]; simp [h]
theorem dw_all (p : UInt8 → Bool) : ∀ l : List UInt8, (l.dropWhile p).all p = l.all p
  | [] => rfl
  | x :: l => by
    cases h : p x
    · rw [List.dropWhile_cons_of_neg (by rw [h]; simp)]
    · rw [List.dropWhile_cons_of_pos h, dw_all p l, List.all_cons, h, Bool.true_and]
theorem trim_all (l : List UInt8) : Lib.trimS l letrs.data.toList = [] ↔ l.all isAz = true := by
  show List.dropWhile isAz (List.dropWhile isAz l.reverse).reverse = [] ↔ _
  rw [dw_nil, List.all_reverse, dw_all, List.all_reverse]
theorem ba_empty {l : List UInt8} : (⟨l.toArray⟩ : ByteArray) = ⟨#[]⟩ ↔ l = [] := by
  constructor
  · intro h
    have := congrArg (fun t : ByteArray => t.data.toList) h
    simpa using this
  · rintro rfl; rfl
def okN (s : ByteArray) : Bool := decide (1 ≤ s.size ∧ s.size ≤ 12) && s.data.toList.all isAz
theorem okN_iff {s : ByteArray} : okN s = true ↔ (1 ≤ s.size ∧ s.size ≤ 12) ∧ s.data.toList.all isAz = true := by
  unfold okN
  rw [Bool.and_eq_true, decide_eq_true_iff]
theorem okN_f {s : ByteArray} (h : ¬ ((1 ≤ s.size ∧ s.size ≤ 12) ∧ s.data.toList.all isAz = true)) : okN s = false := by
  cases hb : okN s with
  | false => rfl
  | true => exact absurd (okN_iff.1 hb) h
theorem s_isN (s : ByteArray) (hs : s.size ≤ 9223372036854775807) : Sp Tryz.prog 37 [aS s] (vb (okN s)) [] := by
  have w1 := s_trim s hs
  have e := trim_all s.data.toList
  refine sp_of (m := no) mixed Tryz.func37 k37 ?_
  simp -dsimp [q]
  refine ⟨fun h1 => ⟨fun h2 => ?_, fun h2 => okN_f (fun h => by omega)⟩, fun h1 => okN_f (fun h => by omega)⟩
  refine call_of (w1) rfl (by simp) ?_
  try simp -dsimp
  try (first | exact fp_one (by decide) | refine fp_and (by decide) ?_)
  have h3 : okN s = true ↔ Lib.trimS s.data.toList letrs.data.toList = [] := by
    rw [okN_iff, e]
    exact ⟨fun h => h.2, fun h => ⟨⟨by omega, by omega⟩, h⟩⟩
  cases ho : okN s with
  | true => exact decide_eq_true (h3.1 ho)
  | false => exact decide_eq_false (fun h => by rw [h3.2 h] at ho; cases ho)
theorem s_sisN (s : ByteArray) (hs : s.size ≤ 1048576) : Sp Tryz.prog 29 [aS s] (vb (okN s)) [] := by
  refine sp_of (m := no) mixed Tryz.func29 k29 ?_
  simp -dsimp [q]
  refine awp_it (true :: false :: false :: true :: []) (fun i : Nat => [(3, vi i)]) (fun i => []) (fun i => i ≤ s.size ∧ (s.data.toList.take i).all isAz = true) (fun i => s.size - i) 0 ?_
  intro s0 e
  simp -dsimp at e
  subst e
  refine ⟨?_, ?_⟩
  · simp
  rintro i ⟨hi, ha⟩
  have bad : ∀ x : UInt8, s.data[i]? = some x → isAz x = false → okN s = false := fun x hx hb => okN_f (fun h => by
    have hm : x ∈ s.data.toList := by rw [Array.mem_toList_iff]; exact Array.mem_of_getElem? hx
    rw [List.all_eq_true.1 h.2 x hm] at hb
    cases hb)
  have hsz := Lib.size_eq s
  simp -dsimp
  refine ⟨fun h1 => ⟨h1, fun x hx => ⟨fun h2 => ⟨h1, fun y hy => ?_⟩, fun h2 => bad x hx ?_⟩⟩, fun h1 => ?_⟩
  · rw [hx] at hy
    cases hy
    refine ⟨fun h3 => bad x hx ?_, fun h3 => ⟨i + 1, by rw [w64 (by omega) (by omega)]; simp, ⟨by omega, fun z hz => ?_⟩, by omega⟩⟩
    · cases hb : isAz x with
      | false => rfl
      | true => have := (isAz_iff x).1 hb; omega
    · rw [List.take_add_one, Array.getElem?_toList, hx] at hz
      rcases List.mem_append.1 hz with hz | hz
      · exact List.all_eq_true.1 ha z hz
      · simp only [Option.toList_some, List.mem_singleton] at hz
        rw [hz, isAz_iff]
        omega
  · cases hb : isAz x with
    | false => rfl
    | true => have := (isAz_iff x).1 hb; omega
  · rw [List.take_of_length_le (by omega)] at ha
    refine ⟨fun h2 => ?_, fun h2 => okN_f (fun h => by omega)⟩
    cases ho : okN s with
    | true => exact decide_eq_true (by have := (okN_iff.1 ho).1; omega)
    | false => exact decide_eq_false (fun h => by rw [okN_iff.2 ⟨⟨by omega, by omega⟩, ha⟩] at ho; cases ho)
def hasN (l : List En) (s : ByteArray) : Bool := l.any fun e => decide (e.1 = s)
theorem s_named1 (e : En) (s : ByteArray) : Sp Tryz.prog 71 [aE e, .fq [.str s]] (vb (decide (e.1 = s))) [] := by
  refine sp_of (m := no) mixed Tryz.func71 k71 ?_
  simp -dsimp [q]
theorem s_fiE (l : List En) (f : Nat) (cs : List A) (p : En → Bool) (h : l.length ≤ 1048576) (hc : cs.all A.shut = true) (hf : ∀ v ∈ l, Sp Tryz.prog f (aE v :: cs) (vb (p v)) []) : Sp Tryz.prog 70 [.v (ves l), .fn f cs] (vi (if l.any p = true then l.findIdx p else -1)) [] := by
  refine sp_of (m := no) mixed Tryz.func70 k70 ?_
  simp -dsimp [q, -Prod.forall, -Prod.exists]
  refine awp_it (true :: true :: false :: false :: false :: false :: false :: true :: true :: []) (fun i : Nat => [(8, vi i)]) (fun i => []) (fun i => i ≤ l.length ∧ ∀ x ∈ l.take i, p x = false) (fun i => l.length - i) 0 ?_
  intro s0 e
  simp -dsimp [hc] at e
  subst e
  refine ⟨?_, ?_⟩
  · simp [hc]
  rintro i ⟨hi, hi2⟩
  simp -dsimp [hc, -Prod.forall, -Prod.exists]
  refine ⟨fun h1 => ⟨h1, fun x ha => call_of (rd := []) (hf x (List.mem_of_getElem? ha)) (by simp [toArgs_shut hc]) (by simp) ?_⟩, fun h1 => ?_⟩
  · simp -dsimp [hc, -Prod.forall, -Prod.exists]
    obtain ⟨_, hal⟩ := List.getElem?_eq_some_iff.1 ha
    refine ⟨fun hp => ?_, fun hp => ⟨i + 1, by rw [w64 (by omega) (by omega)]; simp, ⟨by omega, fun x' hx => ?_⟩, by omega⟩⟩
    · rw [if_pos ⟨x, List.mem_of_getElem? ha, hp⟩, (List.findIdx_eq h1).2 ⟨by rw [hal]; exact hp, fun j hj => hi2 _ (List.mem_iff_getElem.2 ⟨j, by simp; omega, by simp⟩)⟩]
    · rw [List.take_add_one, ha] at hx
      rcases List.mem_append.1 hx with hx | hx
      · exact hi2 _ hx
      · simp only [Option.toList_some, List.mem_singleton] at hx; rw [hx]; exact hp
  · rw [List.take_of_length_le h1] at hi2
    exact hi2
def nmI (l : List En) (s : ByteArray) : Int := if hasN l s = true then (l.findIdx fun e => decide (e.1 = s)) else -1
theorem s_named (l : List En) (s : ByteArray) (h : l.length ≤ 1048576) : Sp Tryz.prog 38 [.v (ves l), aS s] (vi (nmI l s)) [] := by
  have w := s_fiE l 71 [.fq [.str s]] (fun e => decide (e.1 = s)) h rfl (fun e _ => s_named1 e s)
  rw [show (if (l.any fun e => decide (e.1 = s)) = true then ((l.findIdx fun e => decide (e.1 = s) : Nat) : Int) else -1) = nmI l s from rfl] at w
  refine sp_of (m := no) mixed Tryz.func38 k38 ?_
  simp -dsimp [q]
  refine call_of (w) rfl (by simp) ?_
  try simp -dsimp
  try (first | exact fp_one (by decide) | refine fp_and (by decide) ?_)
theorem s_sidx (l : List En) (s : ByteArray) (h : l.length ≤ 1048576) : Sp Tryz.prog 30 [.v (ves l), aS s] (vi (nmI l s)) [] := by
  refine sp_of (m := no) mixed Tryz.func30 k30 ?_
  simp -dsimp [q]
  refine awp_it (true :: true :: false :: false :: false :: true :: []) (fun i : Nat => [(5, vi i)]) (fun i => []) (fun i => i ≤ l.length ∧ ∀ x ∈ l.take i, ¬ x.1 = s) (fun i => l.length - i) 0 ?_
  intro s0 e
  simp -dsimp at e
  subst e
  refine ⟨?_, ?_⟩
  · simp
  rintro i ⟨hi, hi2⟩
  simp -dsimp [-Prod.forall, -Prod.exists]
  refine ⟨fun h1 => ⟨h1, fun e he => ⟨fun h2 => ?_, fun h2 => ⟨i + 1, by rw [w64 (by omega) (by omega)]; simp, ⟨by omega, fun x hx => ?_⟩, by omega⟩⟩⟩, fun h1 => ?_⟩
  · obtain ⟨_, hal⟩ := List.getElem?_eq_some_iff.1 he
    unfold nmI hasN
    rw [if_pos (List.any_eq_true.2 ⟨e, List.mem_of_getElem? he, decide_eq_true h2⟩), (List.findIdx_eq h1).2 ⟨by rw [hal]; exact decide_eq_true h2, fun j hj => decide_eq_false (hi2 _ (List.mem_iff_getElem.2 ⟨j, by simp; omega, by simp⟩))⟩]
  · rcases mem_take_succ he hx with hx | hx
    · exact hi2 x hx
    · rw [hx]; exact h2
  · rw [List.take_of_length_le h1] at hi2
    unfold nmI hasN
    rw [if_neg (by
      rw [List.any_eq_true]
      rintro ⟨x, hx, h⟩
      exact hi2 x hx (of_decide_eq_true h))]
theorem s_same (P Q : PV) (hl : P.2.2.length ≤ 1048576) : Sp Tryz.prog 40 [aPV P, aPV Q] (vb (decide (P = Q))) [] := by
  have w := s_equal P.2.2 Q.2.2 hl
  obtain ⟨f, ⟨a, b, c⟩, l⟩ := P
  obtain ⟨f', ⟨a', b', c'⟩, l'⟩ := Q
  simp only at w
  generalize hT : decide ((f, (a, b, c), l) = (f', (a', b', c'), l')) = T
  refine sp_of (m := no) mixed Tryz.func40 k40 ?_
  simp -dsimp [q]
  have no : ¬ (f = f' ∧ a = a' ∧ b = b' ∧ c = c' ∧ l = l') → T = false := fun h => by
    rw [← hT]
    refine decide_eq_false fun e => h ?_
    cases e
    exact ⟨rfl, rfl, rfl, rfl, rfl⟩
  refine ⟨fun h1 => ⟨fun h2 h3 h4 => ?_, fun h => no (fun e => h e.2.1 e.2.2.1 e.2.2.2.1)⟩, fun h => no (fun e => h e.1)⟩
  subst h1 h2 h3 h4
  have e : decide (l = l') = T := by
    rw [← hT, Bool.eq_iff_iff, decide_eq_true_iff, decide_eq_true_iff]
    simp
  rw [e] at w
  refine call_of (w) rfl (by simp) ?_
  try simp -dsimp
  try (first | exact fp_one (by decide) | refine fp_and (by decide) ?_)
theorem s_ssame2 (P Q : PV) (hl : P.2.2.length ≤ 1048576) : Sp Tryz.prog 32 [aPV P, aPV Q] (vb (decide (P = Q))) [] := by
  have w := s_ssameP P.1 P.2.1.1 P.2.1.2.1 P.2.1.2.2 P.2.2 Q.1 Q.2.1.1 Q.2.1.2.1 Q.2.1.2.2 Q.2.2 hl
  have e : decide (P.1 = Q.1 ∧ (P.2.1.1 = Q.2.1.1 ∧ P.2.1.2.1 = Q.2.1.2.1 ∧ P.2.1.2.2 = Q.2.1.2.2) ∧ P.2.2 = Q.2.2) = decide (P = Q) := by
    obtain ⟨f, ⟨a, b, c⟩, l⟩ := P
    obtain ⟨f', ⟨a', b', c'⟩, l'⟩ := Q
    rw [Bool.eq_iff_iff, decide_eq_true_iff, decide_eq_true_iff]
    simp [and_assoc]
  rwa [e] at w
open Classical in
noncomputable def canP (Q : PV) : PV := if h : okPV Q = true then (canon_both (f := Q.1) (a := Q.2.1.1) (b := Q.2.1.2.1) (c := Q.2.1.2.2) (l := Q.2.2) h).choose else Q
theorem canP_spec {Q : PV} (h : okPV Q = true) : (canP Q).1 = Q.1 ∧ okPV (canP Q) = true ∧ Sp Tryz.prog 41 [aPV Q] (aPV (canP Q)) [] ∧ ∃ L, Sp Tryz.prog 34 [aPV Q] (.v L) [] ∧ Sp Tryz.prog 33 [.v L] (aPV (canP Q)) [] := by
  unfold canP
  rw [dif_pos h]
  exact (canon_both (f := Q.1) (a := Q.2.1.1) (b := Q.2.1.2.1) (c := Q.2.1.2.2) (l := Q.2.2) h).choose_spec
end Go.Proofs.YtkpkhncnenhlaaaGreatDoorEv
namespace Go.Proofs.YtkpkhncnenhlaaaGreatDoorEv
open Go Go.Proofs
set_option maxRecDepth 10000
set_option maxHeartbeats 2000000
structure gdE (l : List En) (i : Nat) (e : En) : Prop where
  n : okN e.1 = true
  h : hasN (l.take i) e.1 = false
  p : okPV e.2 = true
  c : canP e.2 = e.2
  o : ∀ p, 0 < i → l[i - 1]? = some p → ltP p.2 e.2 = true
def catI (l : List En) (i : Nat) : Prop := ∀ j e, j < i → l[j]? = some e → gdE l j e
def isCat (l : List En) : Prop := l.length ≤ 30 ∧ catI l l.length
theorem catI_succ {l : List En} {i : Nat} {e : En} (h : catI l i) (he : l[i]? = some e) (g : gdE l i e) : catI l (i + 1) := fun j x hj hx => by
  rcases Nat.lt_succ_iff_lt_or_eq.1 hj with h1 | h1
  · exact h j x h1 hx
  · subst h1
    rw [he] at hx
    cases hx
    exact g
theorem cat_bad {l : List En} {i : Nat} {e : En} (he : l[i]? = some e) (g : ¬ gdE l i e) : cdec (isCat l) = false := cdec_f fun h => g (h.2 i e (List.getElem?_eq_some_iff.1 he).1 he)
theorem cat_done {l : List En} (h : catI l l.length) : cdec (isCat l) = decide ((l.length : Int) ≤ 30) := by
  by_cases h1 : l.length ≤ 30
  · rw [decide_eq_true (by omega)]; exact cdec_t ⟨h1, h⟩
  · rw [decide_eq_false (by omega)]; exact cdec_f fun h2 => h1 h2.1
theorem okPV_len {P : PV} (h : okPV P = true) : P.2.2.length ≤ 64 := by
  obtain ⟨_, h2, h3, _⟩ := okP_spec.1 h
  obtain ⟨_, _, _, hac⟩ := okL_spec.1 h2
  omega
theorem okPV_cmpb {P Q : PV} (h : okPV P = true) (k : okPV Q = true) : cmpb P Q := by
  refine ⟨fun e => ?_, by have := okPV_len h; omega, by have := okPV_len k; omega⟩
  obtain ⟨_, _, h3, _⟩ := okP_spec.1 h
  obtain ⟨_, _, k3, _⟩ := okP_spec.1 k
  rw [e] at h3
  omega
theorem nmI_neg {l : List En} {s : ByteArray} (h : hasN l s = false) : nmI l s = -1 := by unfold nmI; rw [h]; simp
theorem nmI_pos {l : List En} {s : ByteArray} (h : hasN l s = true) : 0 ≤ nmI l s := by unfold nmI; rw [if_pos h]; omega
theorem nmI_at {l : List En} {i : Nat} {e : En} (he : l[i]? = some e) : nmI l e.1 = i ↔ hasN (l.take i) e.1 = false := by
  obtain ⟨hi, hal⟩ := List.getElem?_eq_some_iff.1 he
  have hh : hasN l e.1 = true := List.any_eq_true.2 ⟨e, List.mem_of_getElem? he, decide_eq_true rfl⟩
  unfold nmI
  rw [if_pos hh]
  constructor
  · intro h
    have h2 : l.findIdx (fun x => decide (x.1 = e.1)) = i := by omega
    unfold hasN
    rw [List.any_eq_false]
    intro x hx
    obtain ⟨j, hj, rfl⟩ := List.mem_take_iff_getElem.1 hx
    have := List.not_of_lt_findIdx (p := fun x : En => decide (x.1 = e.1)) (xs := l) (i := j) (by omega)
    simpa using this
  · intro h
    have : l.findIdx (fun x => decide (x.1 = e.1)) = i := (List.findIdx_eq hi).2 ⟨by rw [hal]; simp, fun j hj => by
      have := List.any_eq_false.1 h _ (List.mem_iff_getElem.2 ⟨j, by simp; omega, List.getElem_take⟩)
      simpa using this⟩
    rw [this]
theorem s_isCat (l : List En) (h : l.length ≤ 1048576) (hw : ∀ e ∈ l, e.1.size ≤ 1048576 ∧ e.2.2.2.length ≤ 1048576) : Sp Tryz.prog 11 [.v (ves l)] (vb (cdec (isCat l))) [] := by
  refine sp_of (m := no) mixed Tryz.func11 k11 ?_
  simp -dsimp [q]
  refine awp_it (true :: false :: false :: false :: false :: true :: true :: true :: []) (fun i : Nat => [(7, vi i)]) (fun i => []) (fun i => i ≤ l.length ∧ catI l i) (fun i => l.length - i) 0 ?_
  intro s0 e
  simp -dsimp at e
  subst e
  refine ⟨?_, ?_⟩
  · simp [catI]
  rintro i ⟨hi, hc⟩
  by_cases hlt : i < l.length
  case neg =>
    have : i = l.length := by omega
    subst this
    rw [cat_done hc]
    simp -dsimp
  obtain ⟨e, he⟩ : ∃ e, l[i]? = some e := ⟨_, List.getElem?_eq_getElem hlt⟩
  have hwe := hw e (List.mem_of_getElem? he)
  simp -dsimp [show ((i : Int) < l.length) by omega, -Prod.forall, -Prod.exists]
  intro e' he'
  rw [he] at he'
  cases he'
  have w1 := s_isN e.1 (by omega)
  by_cases g1 : okN e.1 = true
  case neg =>
    rw [Bool.eq_false_iff.2 g1] at w1
    rw [cat_bad he (fun g => g1 g.n)]
    refine call_of (w1) rfl (by simp) ?_
    try simp -dsimp
    try (first | exact fp_one (by decide) | refine fp_and (by decide) ?_)
  rw [g1] at w1
  refine call_of (w1) rfl (by simp) ?_
  try simp -dsimp
  try (first | exact fp_one (by decide) | refine fp_and (by decide) ?_)
  refine ⟨hi, ?_⟩
  have w2 := s_named (l.take i) e.1 (by rw [List.length_take]; omega)
  by_cases g2 : hasN (l.take i) e.1 = false
  case neg =>
    have hk := nmI_pos (Bool.not_eq_false _ ▸ g2)
    rw [cat_bad he (fun g => g2 g.h)]
    generalize nmI (l.take i) e.1 = k at *
    refine call_of (w2) rfl (by simp) ?_
    try simp -dsimp
    try (first | exact fp_one (by decide) | refine fp_and (by decide) ?_)
    intro h
    omega
  rw [nmI_neg g2] at w2
  refine call_of (w2) rfl (by simp) ?_
  try simp -dsimp
  try (first | exact fp_one (by decide) | refine fp_and (by decide) ?_)
  have w3 := s_isP e.2.1 e.2.2.1.1 e.2.2.1.2.1 e.2.2.1.2.2 e.2.2.2 (by omega)
  rw [show okP e.2.1 e.2.2.1.1 e.2.2.1.2.1 e.2.2.1.2.2 e.2.2.2 = okPV e.2 from rfl] at w3
  by_cases g3 : okPV e.2 = true
  case neg =>
    rw [Bool.eq_false_iff.2 g3] at w3
    rw [cat_bad he (fun g => g3 g.p)]
    refine call_of (w3) rfl (by simp) ?_
    try simp -dsimp
    try (first | exact fp_one (by decide) | refine fp_and (by decide) ?_)
  rw [g3] at w3
  refine call_of (w3) rfl (by simp) ?_
  try simp -dsimp
  try (first | exact fp_one (by decide) | refine fp_and (by decide) ?_)
  obtain ⟨c1, c2, c3, _⟩ := canP_spec g3
  have c4 := okPV_len c2
  refine call_of (c3) rfl (by simp) ?_
  try simp -dsimp
  try (first | exact fp_one (by decide) | refine fp_and (by decide) ?_)
  have w5 := s_same (canP e.2) e.2 (by omega)
  by_cases g4 : canP e.2 = e.2
  case neg =>
    rw [decide_eq_false g4] at w5
    rw [cat_bad he (fun g => g4 g.c)]
    refine call_of (w5) rfl (by simp) ?_
    try simp -dsimp
    try (first | exact fp_one (by decide) | refine fp_and (by decide) ?_)
  rw [decide_eq_true g4] at w5
  refine call_of (w5) rfl (by simp) ?_
  try simp -dsimp
  try (first | exact fp_one (by decide) | refine fp_and (by decide) ?_)
  have nx : (∀ p, 0 < i → l[i - 1]? = some p → ltP p.2 e.2 = true) → catI l (i + 1) := fun ho => catI_succ hc he ⟨g1, g2, g3, g4, ho⟩
  have okp : ∀ p, 0 < i → l[i - 1]? = some p → okPV p.2 = true := fun p h0 hp => (hc (i - 1) p (by omega) hp).p
  refine ⟨fun h0 => ⟨by rw [w64 (by omega) (by omega)]; omega, fun s f a b c lq hp => ?_⟩, fun h0 => ⟨i + 1, by rw [w64 (by omega) (by omega)]; simp, ⟨by omega, nx (fun p h1 _ => by omega)⟩, by omega⟩⟩
  rw [w64 (by omega) (by omega), show ((i : Int) - 1).toNat = i - 1 by omega] at hp
  obtain ⟨kk, w6, k1, _⟩ := s_cmpP (f, (a, b, c), lq) e.2 (okPV_cmpb (okp _ h0 hp) g3)
  refine call_of (w6) rfl (by simp) ?_
  try simp -dsimp
  try (first | exact fp_one (by decide) | refine fp_and (by decide) ?_)
  refine ⟨fun hk => ?_, fun hk => ⟨i + 1, by rw [w64 (by omega) (by omega)]; simp, ⟨by omega, nx (fun p _ hp' => ?_)⟩, by omega⟩⟩
  · exact cdec_false.1 (cat_bad he (fun g => by have := k1.2 (g.o _ h0 hp); omega))
  · rw [hp] at hp'
    cases hp'
    exact k1.1 hk
theorem s_sisCat (l : List En) (h : l.length ≤ 1048576) (hw : ∀ e ∈ l, e.1.size ≤ 1048576 ∧ e.2.2.2.length ≤ 1048576) : Sp Tryz.prog 9 [.v (ves l)] (vb (cdec (isCat l))) [] := by
  refine sp_of (m := no) mixed Tryz.func9 k9 ?_
  simp -dsimp [q]
  refine awp_it (true :: false :: false :: true :: []) (fun i : Nat => [(3, vi i)]) (fun i => []) (fun i => i ≤ l.length ∧ catI l i) (fun i => l.length - i) 0 ?_
  intro s0 e
  simp -dsimp at e
  subst e
  refine ⟨?_, ?_⟩
  · simp [catI]
  rintro i ⟨hi, hc⟩
  by_cases hlt : i < l.length
  case neg =>
    have : i = l.length := by omega
    subst this
    rw [cat_done hc]
    simp -dsimp
  obtain ⟨e, he⟩ : ∃ e, l[i]? = some e := ⟨_, List.getElem?_eq_getElem hlt⟩
  have hwe := hw e (List.mem_of_getElem? he)
  simp -dsimp [show ((i : Int) < l.length) by omega, -Prod.forall, -Prod.exists]
  intro e' he'
  rw [he] at he'
  cases he'
  have w1 := s_sisN e.1 (by omega)
  by_cases g1 : okN e.1 = true
  case neg =>
    rw [Bool.eq_false_iff.2 g1] at w1
    rw [cat_bad he (fun g => g1 g.n)]
    refine call_of (w1) rfl (by simp) ?_
    try simp -dsimp
    try (first | exact fp_one (by decide) | refine fp_and (by decide) ?_)
  rw [g1] at w1
  refine call_of (w1) rfl (by simp) ?_
  try simp -dsimp
  try (first | exact fp_one (by decide) | refine fp_and (by decide) ?_)
  have w2 := s_sidx l e.1 h
  have hni := nmI_at he
  by_cases g2 : hasN (l.take i) e.1 = false
  case neg =>
    rw [cat_bad he (fun g => g2 g.h)]
    have hk : ¬ nmI l e.1 = i := fun h => g2 (hni.1 h)
    generalize nmI l e.1 = k at *
    refine call_of (w2) rfl (by simp) ?_
    try simp -dsimp
    try (first | exact fp_one (by decide) | refine fp_and (by decide) ?_)
    exact fun h => absurd h hk
  rw [hni.2 g2] at w2
  refine call_of (w2) rfl (by simp) ?_
  try simp -dsimp
  try (first | exact fp_one (by decide) | refine fp_and (by decide) ?_)
  have w3 := s_sisP e.2.1 e.2.2.1.1 e.2.2.1.2.1 e.2.2.1.2.2 e.2.2.2 (by omega)
  rw [show okP e.2.1 e.2.2.1.1 e.2.2.1.2.1 e.2.2.1.2.2 e.2.2.2 = okPV e.2 from rfl] at w3
  by_cases g3 : okPV e.2 = true
  case neg =>
    rw [Bool.eq_false_iff.2 g3] at w3
    rw [cat_bad he (fun g => g3 g.p)]
    refine call_of (w3) rfl (by simp) ?_
    try simp -dsimp
    try (first | exact fp_one (by decide) | refine fp_and (by decide) ?_)
  rw [g3] at w3
  refine call_of (w3) rfl (by simp) ?_
  try simp -dsimp
  try (first | exact fp_one (by decide) | refine fp_and (by decide) ?_)
  obtain ⟨c1, c2, _, L, c3, c5⟩ := canP_spec g3
  have c4 := okPV_len c2
  refine call_of (c3) rfl (by simp) ?_
  try simp -dsimp
  try (first | exact fp_one (by decide) | refine fp_and (by decide) ?_)
  refine call_of (c5) rfl (by simp) ?_
  try simp -dsimp
  try (first | exact fp_one (by decide) | refine fp_and (by decide) ?_)
  have w5 := s_ssame2 (canP e.2) e.2 (by omega)
  by_cases g4 : canP e.2 = e.2
  case neg =>
    rw [decide_eq_false g4] at w5
    rw [cat_bad he (fun g => g4 g.c)]
    refine call_of (w5) rfl (by simp) ?_
    try simp -dsimp
    try (first | exact fp_one (by decide) | refine fp_and (by decide) ?_)
  rw [decide_eq_true g4] at w5
  refine call_of (w5) rfl (by simp) ?_
  try simp -dsimp
  try (first | exact fp_one (by decide) | refine fp_and (by decide) ?_)
  have nx : (∀ p, 0 < i → l[i - 1]? = some p → ltP p.2 e.2 = true) → catI l (i + 1) := fun ho => catI_succ hc he ⟨g1, g2, g3, g4, ho⟩
  have okp : ∀ p, 0 < i → l[i - 1]? = some p → okPV p.2 = true := fun p h0 hp => (hc (i - 1) p (by omega) hp).p
  refine ⟨fun h0 => ⟨by rw [w64 (by omega) (by omega)]; omega, fun s f a b c lq hp => ?_⟩, fun h0 => ⟨i + 1, by rw [w64 (by omega) (by omega)]; simp, ⟨by omega, nx (fun p h1 _ => by omega)⟩, by omega⟩⟩
  rw [w64 (by omega) (by omega), show ((i : Int) - 1).toNat = i - 1 by omega] at hp
  have w6 := s_slessP (f, (a, b, c), lq) e.2 (okPV_cmpb (okp _ h0 hp) g3)
  cases hb : ltP (f, (a, b, c), lq) e.2 with
  | false =>
    rw [hb] at w6
    have hbad := cat_bad he (fun g => by have := g.o _ h0 hp; rw [hb] at this; cases this)
    refine call_of (w6) rfl (by simp) ?_
    try simp -dsimp
    try (first | exact fp_one (by decide) | refine fp_and (by decide) ?_)
    exact cdec_false.1 hbad
  | true =>
    rw [hb] at w6
    refine call_of (w6) rfl (by simp) ?_
    try simp -dsimp
    try (first | exact fp_one (by decide) | refine fp_and (by decide) ?_)
    refine ⟨i + 1, by rw [w64 (by omega) (by omega)]; simp, ⟨by omega, nx (fun p _ hp' => ?_)⟩, by omega⟩
    rw [hp] at hp'
    cases hp'
    exact hb
end Go.Proofs.YtkpkhncnenhlaaaGreatDoorEv
namespace Go.Proofs.YtkpkhncnenhlaaaGreatDoorEv
open Go Go.Proofs
set_option maxRecDepth 10000
set_option maxHeartbeats 2000000
theorem law_FnExactIsCatalogue (a0 : List ((ByteArray × (Int × (Int × Int × Int) × List (Int))))) (wf0 : (a0.length ≤ maxLen ∧ ∀ y ∈ a0, (y.1.size ≤ maxLen ∧ ((Lit.int .i64 y.2.1).wf = true ∧ ((Lit.int .i64 y.2.2.1.1).wf = true ∧ (Lit.int .i64 y.2.2.1.2.1).wf = true ∧ (Lit.int .i64 y.2.2.1.2.2).wf = true) ∧ (y.2.2.2.length ≤ maxLen ∧ ∀ z ∈ y.2.2.2, (Lit.int .i64 z).wf = true))))) : Sp Tryz.prog 3 [.v (.sl 6 (a0.map fun y => .ag [.str y.1, .int .i64 y.2.1, .int .i64 y.2.2.1.1, .int .i64 y.2.2.1.2.1, .int .i64 y.2.2.1.2.2, .sl 0 (y.2.2.2.map fun z => .int .i64 z)]))] (.v (.bool true)) [] := by
  have hl := wf0.1
  have hw : ∀ e ∈ (a0 : List En), wfE e := fun e he => ⟨(wf0.2 e he).1, (wf0.2 e he).2.2.2.1⟩
  clear wf0
  generalize a0 = l at *
  show Sp Tryz.prog 3 [.v (ves l)] (vb true) []
  refine sp_of (m := no) mixed Tryz.func3 k3 ?_
  simp -dsimp [q]
  refine call_of (s_szES l 1048576 hl hw (by omega)) rfl (by simp) ?_
  try simp -dsimp
  try (first | exact fp_one (by decide) | refine fp_and (by decide) ?_)
  by_cases hn : (1048576 : Int) < l.length
  · rw [if_pos hn]
    simp
  rw [if_neg hn]
  intro hs
  have hle := szF_le l (1048576 - l.length) (by omega) hs
  have hc : l.length ≤ 1048576 := by omega
  have he : ∀ e ∈ l, e.1.size ≤ 1048576 ∧ e.2.2.2.length ≤ 1048576 := fun e h => by have := hle e h; omega
  have he2 : ∀ e ∈ l, e.2.2.2.length ≤ 1048576 := fun e h => (he e h).2
  generalize szF (1048576 - l.length) l = r at *
  have w1 := s_sisCat l hc he
  have w2 := s_isCat l hc he
  generalize cdec (isCat l) = T at *
  repeat ((first | refine call_of (s_toES l hc he2) rfl (by simp) ?_ | refine call_of (w1) rfl (by simp) ?_ | refine call_of (w2) rfl (by simp) ?_ | refine call_of (s_eqES l l hc he2) rfl (by simp) ?_ | exact fp_one (by decide) | refine fp_and (by decide) ?_ | refine br_l (by omega) (by omega) ?_ | refine br_r (by omega) (by omega) ?_ | refine br_p (by omega) (by omega) ?_ | refine br_q (by omega) (by omega) ?_); try simp -dsimp)
end Go.Proofs.YtkpkhncnenhlaaaGreatDoorEv
namespace Go.Proofs.YtkpkhncnenhlaaaGreatDoorEv
open Go Go.ChangeShapes Go.WideShapes Go.RowKit Go.Deep

abbrev below (W : World) : Nat → Prop := fun b => b < W.heap.size
def OpC {α : Type} (P : Program) (t : TypeId) (encs : α → List V) (wf : α → Prop) : Prop :=
  ∀ (H : Type) (enc : TypeId × Value → H) (W : World) (spare : Nat → Bool) (held : Bool) (fuel : Nat) (cs : List Value) (x : DataW H × List MemPlace),
    DataW.trod enc P W 0 spare held fuel t cs = some x → ∃ a, RepL (below W) W (encs a) cs ∧ wf a
theorem opc_int {P : Program} {t : TypeId} {k : IntKind} (hu : P.underlying t = some (.int k)) : OpC P t (fun n => [V.int k n]) (fun n => (Lit.int k n).wf = true) := by
  intro H enc W spare held fuel cs x h
  obtain ⟨n, rfl, _, hw⟩ := DataW.trod_int hu h
  exact ⟨n, ⟨_, [], rfl, rfl, rfl, rfl⟩, hw⟩
theorem opc_bool {P : Program} {t : TypeId} (hu : P.underlying t = some .bool) : OpC P t (fun b => [V.bool b]) (fun _ => True) := by
  intro H enc W spare held fuel cs x h
  obtain ⟨n, rfl, _⟩ := DataW.trod_bool hu h
  exact ⟨n, ⟨_, [], rfl, rfl, rfl, rfl⟩, trivial⟩
theorem opc_string {P : Program} {t : TypeId} (hu : P.underlying t = some .string) : OpC P t (fun s => [V.str s]) (fun s => s.size ≤ maxLen) := by
  intro H enc W spare held fuel cs x h
  obtain ⟨n, rfl, _, hs⟩ := DataW.trod_string hu h
  exact ⟨n, ⟨_, [], rfl, rfl, rfl, rfl⟩, hs⟩
theorem list_of {α : Type} {n : Nat} {p : Nat → α → Prop} (h : ∀ i, i < n → ∃ x, p i x) : ∃ l : List α, l.length = n ∧ ∀ i (hi : i < l.length), p i l[i] := by
  induction n with
  | zero => exact ⟨[], rfl, fun i hi => absurd hi (Nat.not_lt_zero _)⟩
  | succ n ih =>
    obtain ⟨l, hl, hp⟩ := ih (fun i hi => h i (Nat.lt_succ_of_lt hi))
    obtain ⟨x, hx⟩ := h n (Nat.lt_succ_self n)
    refine ⟨l ++ [x], by simp [hl], fun i hi => ?_⟩
    by_cases e : i < l.length
    · rw [List.getElem_append_left e]; exact hp i e
    · have : i = n := by simp at hi; omega
      subst this
      rw [List.getElem_append_right (by omega)]
      simpa [hl] using hx
def mkE (k : Nat) (cs : List V) : V := if k = 0 then cs.headD default else .ag cs
theorem repAt_of {S : Nat → Prop} {w : World} {Ad : Option Addr} {e : Nat} : ∀ (xs : List V) (i : Nat), (∀ j x, xs[j]? = some x → ∃ b u, Ad = some b ∧ S b.block ∧ Rep S w x u ∧ u.cells.size = cz e ∧ x.isAg = (e != 0) ∧ ∀ (k : Nat) y, u.cells[k]? = some y → w.cell? (b.add ((i + j) * cz e + k)) = some y) → RepAt S w Ad e i xs
  | [], _, _ => trivial
  | x :: xs, i, h => by
    refine ⟨by simpa using h 0 x rfl, repAt_of xs (i + 1) (fun j y hy => ?_)⟩
    obtain ⟨b, u, h1, h2, h3, h4, h5, h6⟩ := h (j + 1) y (by simpa using hy)
    exact ⟨b, u, h1, h2, h3, h4, h5, fun k z hz => by rw [show i + 1 + j = i + (j + 1) by omega]; exact h6 k z hz⟩
theorem mkE_rep {S : Nat → Prop} {w : World} {k : Nat} {ds : List V} {cs : List Value} (h : RepL S w ds cs) (hl : cs.length = cz k) : ∃ u, Rep S w (mkE k ds) u ∧ u.cells.toList = cs ∧ (mkE k ds).isAg = (k != 0) := by
  unfold mkE
  by_cases hk : k = 0
  · subst hk
    rw [if_pos rfl]
    match ds, cs, h, hl with
    | [d], [c], ⟨u, us', h1, h2, h3, h4⟩, _ =>
      cases h1
      have := h3.cellsNe h2
      exact ⟨c, h3, by rw [this.2], h2⟩
    | [], [], _, hl => cases hl
    | _ :: _ :: _, [], h, _ => obtain ⟨_, _, h1, _⟩ := h; cases h1
    | [_], [], h, _ => obtain ⟨_, _, h1, _⟩ := h; cases h1
    | [_], _ :: _ :: _, _, hl => cases hl
    | [], _ :: _, h, _ => simp [RepL] at h
    | _ :: _ :: _, [_], h, _ => obtain ⟨_, _, h1, _, _, _, _, h2, _⟩ := h; cases h1; cases h2
    | _ :: _ :: _, _ :: _ :: _, _, hl => cases hl
  · rw [if_neg hk]
    exact ⟨.agg cs.toArray, ⟨cs, rfl, h⟩, by simp [Value.cells], by simp [V.isAg, hk]⟩
theorem opc_slice {α : Type} {P : Program} {t e : TypeId} {k : Nat} {encs : α → List V} {wf : α → Prop} (hu : P.underlying t = some (.slice e)) (hk : kindOf P e = some k) (h : OpC P e encs wf) :
    OpC P t (fun l : List α => [V.sl k (l.map fun a => mkE k (encs a))]) (fun l => l.length ≤ maxLen ∧ ∀ x ∈ l, wf x) := by
  intro H enc W spare held fuel cs x hx
  have hsz : P.cellsOf e = cz k := by
    obtain ⟨_, i, _, h1, h2, _⟩ := kindOf_spec hk
    simp [Program.cellsOf, h1, h2]
  rcases open_slice hu hx with ⟨rfl, _⟩ | ⟨a, len, cap, m, n, D, Pl, rfl, _, hl, hm, hmm, _, hel⟩
  · exact ⟨[], ⟨_, [], rfl, rfl, ⟨none, 0, rfl, Nat.le_refl _, Nat.zero_le _, trivial⟩, rfl⟩, Nat.zero_le _, fun x hx => absurd hx (by simp)⟩
  · have hle : len ≤ m := by rw [hmm]; split <;> omega
    obtain ⟨l, hlen, hp⟩ := list_of (p := fun i y => ∃ cs', W.cells? 0 (a.add (i * P.cellsOf e)) (P.cellsOf e) = some cs' ∧ RepL (below W) W (encs y) cs' ∧ wf y) (n := len) (fun i hi => by
      obtain ⟨cs', h1, h2⟩ := hel i (by omega)
      obtain ⟨y, hK, hw⟩ := h H enc W spare held n cs' _ h2
      exact ⟨y, cs', h1, hK, hw⟩)
    subst hlen
    refine ⟨l, ⟨_, [], rfl, rfl, ⟨some a, cap, by simp, by simpa using hl, hm, repAt_of _ 0 (fun j x hj => ?_)⟩, rfl⟩, Nat.le_trans hl hm, fun y hy => ?_⟩
    · simp only [List.getElem?_map, Option.map_eq_some_iff] at hj
      obtain ⟨y, hj, rfl⟩ := hj
      obtain ⟨hj', rfl⟩ := List.getElem?_eq_some_iff.1 hj
      obtain ⟨cs', h1, hK, _⟩ := hp j hj'
      obtain ⟨_, hcl, hcell⟩ := World.cells?_some h1
      rw [hsz] at hcl hcell
      obtain ⟨u, h2, h3, h4⟩ := mkE_rep hK hcl
      have hus : u.cells.size = cz k := by rw [← hcl, ← h3]; simp
      have cell : ∀ (i : Nat) y, u.cells[i]? = some y → W.cell? (a.add (j * cz k + i)) = some y := by
        intro i y hy
        have hi : i < cz k := by have := (Array.getElem?_eq_some_iff.1 hy).1; omega
        have := hcell i hi
        rw [Go.Deep.add_add] at this
        rw [this, ← h3]
        simpa using hy
      refine ⟨a, u, rfl, ?_, h2, hus, h4, fun i y hy => by simpa using cell i y hy⟩
      have h0 : 0 < u.cells.size := by rw [hus]; exact cz_pos k
      have := World.block_lt_of_cell? W _ (cell 0 _ (Array.getElem?_eq_getElem h0))
      rwa [add_block] at this
    · obtain ⟨j, hj, rfl⟩ := List.mem_iff_getElem.1 hy
      obtain ⟨_, _, _, hw⟩ := hp j hj
      exact hw
theorem RepL.append {S : Nat → Prop} {w : World} : ∀ {az bs : List V} {us vs : List Value}, RepL S w az us → RepL S w bs vs → RepL S w (az ++ bs) (us ++ vs)
  | [], _, us, _, h, k => by simp only [RepL] at h; subst h; exact k
  | a :: az, _, us, vs, ⟨u, us', h1, h2, h3, h4⟩, k => by subst h1; exact ⟨u, us' ++ vs, rfl, h2, h3, h4.append k⟩
/-- The fields of a struct, from a place on. -/
def OpF {α : Type} (P : Program) (fs : List Field) (off n : Nat) (encs : α → List V) (wf : α → Prop) : Prop :=
  ∀ (H : Type) (enc : TypeId × Value → H) (W : World) (spare : Nat → Bool) (held : Bool) (fuel : Nat) (cs : List Value), cs.length = off + n →
    (∀ f ∈ fs, ∃ y, DataW.trod enc P W 0 spare held fuel f.type ((cs.drop f.offset).take (P.cellsOf f.type)) = some y) → ∃ a, RepL (below W) W (encs a) (cs.drop off) ∧ wf a
theorem opf_one {α : Type} {P : Program} {f : Field} {off n : Nat} {encs : α → List V} {wf : α → Prop} (ho : f.offset = off) (hc : P.cellsOf f.type = n) (h : OpC P f.type encs wf) : OpF P [f] off n encs wf := by
  intro H enc W spare held fuel cs hl hf
  obtain ⟨y, hy⟩ := hf f (by simp)
  rw [ho, hc, List.take_of_length_le (by rw [List.length_drop]; omega)] at hy
  exact h H enc W spare held fuel _ _ hy
theorem opf_cons {α β : Type} {P : Program} {f : Field} {fs : List Field} {off n m : Nat} {encs : α → List V} {encs1 : β → List V} {wf : α → Prop} {wf1 : β → Prop} (ho : f.offset = off) (hc : P.cellsOf f.type = n) (h : OpC P f.type encs wf) (h1 : OpF P fs (off + n) m encs1 wf1) :
    OpF P (f :: fs) off (n + m) (fun a : α × β => encs a.1 ++ encs1 a.2) (fun a => wf a.1 ∧ wf1 a.2) := by
  intro H enc W spare held fuel cs hl hf
  obtain ⟨y, hy⟩ := hf f (by simp)
  rw [ho, hc] at hy
  obtain ⟨a, hK, hw⟩ := h H enc W spare held fuel _ _ hy
  obtain ⟨b, hK1, hw1⟩ := h1 H enc W spare held fuel cs (by omega) (fun g hg => hf g (by simp [hg]))
  refine ⟨(a, b), ?_, hw, hw1⟩
  have := hK.append hK1
  rwa [← List.drop_drop, List.take_append_drop] at this
theorem opc_struct {α : Type} {P : Program} {t : TypeId} {fs : Array Field} {n : Nat} {encs : α → List V} {wf : α → Prop} (hu : P.underlying t = some (.struct fs)) (hc : P.cellsOf t = n) (h : OpF P fs.toList 0 n encs wf) : OpC P t encs wf := by
  intro H enc W spare held fuel cs x hx
  obtain ⟨xs, m, _, _, hl, hlen, hf⟩ := DataW.trod_struct hu hx
  have := h H enc W spare held m cs (by omega) (fun f hf' => by
    obtain ⟨i, hi, rfl⟩ := List.mem_iff_getElem.1 hf'
    have h2 := hf i fs.toList[i] (by simp at hi ⊢)
    rw [List.getElem?_eq_getElem (by simp at hi; omega)] at h2
    exact ⟨_, h2⟩)
  simpa using this
theorem agg_of {P : Program} {W : World} {r : Reach} {base : Nat} {t : TypeId} {fs : Array Field} {v : Value} (hu : P.underlying t = some (.struct fs)) (hv : Value.okWide P W r base t v) : ∃ cs : Array Value, v = .agg cs := by
  obtain ⟨cs, rfl, _⟩ := okWide_struct hu hv
  exact ⟨cs, rfl⟩
/-- A law's call comes back with true, and what was there is there. -/
theorem law_calls {P : Program} {f : Nat} {az : List A} (h : Sp P f az (.v (.bool true)) []) (W : World) (hT : Tbl W (fun _ => False) (below W)) (us : List Value) (hus : ARs (fun _ => none) (fun _ => (0, 0)) (below W) W az us) :
    Calls P f us.toArray W fun e w' => e = .returned (.bool true) ∧ Below W.heap.size W w' := by
  have R0 : Rl W (fun _ => False) (below W) (fun i => ([] : List Ck)[i]?) (fun _ => (0, 0)) (below W) W :=
    ⟨hT, rfl, rfl, rfl, Nat.le_refl _, fun _ _ _ => rfl, fun _ h => h, fun _ h => .inl h, fun _ h => h, fun i => trivial, fun i c hc => (by cases hc), fun i j c d hc => (by cases hc)⟩
  refine (h.2 (below W) W us (fun _ => False) (fun _ => (0, 0)) R0 hus).mono ?_
  rintro e w' ⟨u, S', μ', rfl, R, _, hu⟩
  have : u = .bool true := hu
  exact ⟨by rw [this], R.os, R.tape, R.output, R.size, fun k hk => R.keep k hk (fun h => h)⟩
theorem ar_agg {S : Nat → Prop} {w : World} {ds : List V} {cs : Array Value} (h : RepL S w ds cs.toList) : AR (fun _ => none) (fun _ => (0, 0)) S w (.v (.ag ds)) (.agg cs) := ⟨cs.toList, by simp, h⟩
theorem ar_one {S : Nat → Prop} {w : World} {d : V} {v : Value} (h : RepL S w [d] [v]) : AR (fun _ => none) (fun _ => (0, 0)) S w (.v d) v := by
  obtain ⟨u, us', h1, h2, h3, h4⟩ := h
  cases h1
  exact h3
end Go.Proofs.YtkpkhncnenhlaaaGreatDoorEv
